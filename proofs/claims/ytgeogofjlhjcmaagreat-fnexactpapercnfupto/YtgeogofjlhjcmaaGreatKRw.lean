/-
  Marks written into reasons, cases, lemmas, clauses: the walks. A step towards the exact laws. Marks found in clauses; clauses compared; what the measure of a paper says. A step towards the exact laws.
-/
import Derived.Test.YtgeogofjlhjcmaaGreatKRv
import Derived.Test.YtgeogofjlhjcmaaGreatKRr
import Derived.Test.YtgeogofjlhjcmaaGreatKRs
import Derived.Test.YtgeogofjlhjcmaaGreatKRt
import Derived.Test.YtgeogofjlhjcmaaGreatKRg
set_option linter.unusedVariables false
set_option linter.unusedSimpArgs false
namespace Go.Proofs.YtgeogofjlhjcmaaGreat
open Go.Eng Go.Mod
open Int renaming reduceEq → Z1,reduceLT → Z2,reduceLE → Z3,reduceToNat → Z4
set_option maxRecDepth 100000
set_option maxHeartbeats 400000
theorem c_laws_markIntSS (ts:List (List Int)) (k:Int) (h0:0 ≤ k) (h1:k + ctL List.length ts ≤ 4398046511104):C E.P 67 [.acc 0,iv k] [some (.tre 44 (iiT ts))] (Eq2 (iv (mkL (mkL mkI) ts k).2) [some (.tre 44 (iiT (mkL (mkL mkI) ts k).1))]):=by
 have hLB:=LB_eq
 refine C_goS (nt:=19) (rs:=[.tmp 4]) hm Tryz.func67 rfl rfl rfl rfl rfl (fun hl he=>?_)
 simp -implicitDefEqProofs only [go_sem,Z1,Z2,Z3,Z4] at hl ⊢
 simp -implicitDefEqProofs only [go_sem,Z1,Z2,Z3,Z4] at he
 refine loop_gow3 (fun (i:Nat) (zs:List (List Int)) (q:Int)=> Mk (mkL mkI) ts k i zs q) (fun (i:Nat) (zs:List (List Int)) (q:Int)=> ⟨mkS 19 .any [(0,.acc 0),(1,iv q),(5,iv i)],[some (.tre 44 (iiT zs))]⟩) (fun (i:Nat) (zs:List (List Int)) (q:Int)=> ts.length - i) (0) (ts) (k) ?_ (weakS [some 0] ?_ ?_ rfl rfl) ?_
 rotate_left
 ·simp -implicitDefEqProofs only [go_sem,Z1,Z2,Z3,Z4]
  all_goals (first | done | (exact ⟨rfl,iiT_ok _⟩) | (simp [wks_rfl, *]; done) | (simp [wks_rfl]; done) | (simp; omega) | skip)
 ·simp -implicitDefEqProofs only [go_sem,Z1,Z2,Z3,Z4]
  all_goals (first | done | (exact ⟨rfl,iiT_ok _⟩) | (simp [wks_rfl, *]; done) | (simp [wks_rfl]; done) | (simp; omega) | skip)
 rotate_left
 ·exact Mk.zero _ _ _
 ·rintro i zs q hI
  have hl9:=hI.len
  have hct:=hI.ct (c:=List.length) mkI_ct
  have hdr:=ctL_drop List.length ts i
  rcases Classical.em (i < ts.length) with h2 | h2
  ·have h2':i < zs.length:=by omega
   have h2'':i < (iiT zs).length:=by rw [iiT_len]; exact h2'
   have hat:=ctL_at List.length ts i h2
   have hrow:rwT (iiT zs) i = [.own 3 (intT ts[i])]:=by rw [iiT_row h2',hI.at h2]; rfl
   have hrs:∀ r,rwT ((iiT zs).set i r) i = r:=fun r=>rwT_set h2''
   have hmk:=hI.step h2
   have hset:=iiT_set zs i (mkL mkI ts[i] q).1
   refine W_take hm 0 i _ rfl h2'' hrow ?_
   simp -implicitDefEqProofs only [go_sem,Z1,Z2,Z3,Z4,h2,hl9,hrs]
   try (with_reducible refine ind_andM (by kernel_rfl) ?_)
   refine atOwn [] [1] (c_laws_markIntS ts[i] q (by omega) (by omega)) ?_ ?_ <;> simp -implicitDefEqProofs only [go_sem,Z1,Z2,Z3,Z4,hrs,hl9]
   try (with_reducible refine ind_andM (by kernel_rfl) ?_)
   repeat (first | with_reducible refine ind_andM (by kernel_rfl) ?_ | (with_reducible apply And.intro; case left=>first | omega | assumption | exact ⟨rowsT_all _,by omega⟩ | exact ⟨rowsI_all _,by omega⟩ | exact ⟨rowsLit_all _,by omega⟩ | exact ⟨rowsLin_all _,by omega⟩ | exact ⟨rowsEq_all _,by omega⟩ | rfl | (simp [*]; done) | (simp; omega) | exact ⟨rowsRat_all _,by omega⟩ | exact ⟨rowsAtom_all _,by omega⟩ | exact ⟨rowsB_all _,by omega⟩ | exact ⟨rowsForm_all _,by omega⟩ | exact ⟨rowsII_all _,by omega⟩))
   refine ⟨i + 1,zs.set i (mkL mkI ts[i] q).1,(mkL mkI ts[i] q).2,?_,?_,weak_put 0 i _ rfl (by rw [List.length_set]; exact h2'') (hrs _) ?_⟩
   rotate_left
   ·show _ < _
    omega
   ·simp -implicitDefEqProofs only [go_sem,Z1,Z2,Z3,Z4]
    refine weakS [some 0] ?_ ?_ rfl rfl
    ·simp -implicitDefEqProofs only [go_sem,Z1,Z2,Z3,Z4]
     all_goals (first | done | (exact ⟨hset,(congrArg (fun z=>(frzRows z).isSome) hset).trans (iiT_ok _)⟩) | (simp [wks_rfl, *]; done) | (simp [wks_rfl]; done) | (simp; omega) | skip)
    ·simp -implicitDefEqProofs only [go_sem,Z1,Z2,Z3,Z4]
     all_goals (first | done | (exact ⟨hset,(congrArg (fun z=>(frzRows z).isSome) hset).trans (iiT_ok _)⟩) | (simp [wks_rfl, *]; done) | (simp [wks_rfl]; done) | (simp; omega) | skip)
   exact hmk
  ·have hA:=hI.all (by omega)
   refine W_ofc hm ?_
   try simp -implicitDefEqProofs only [go_sem,Z1,Z2,Z3,Z4,h2,hl9]
   try (with_reducible refine ind_andM (by kernel_rfl) ?_)
   refine finM' [some 0] ?_ rfl rfl
   simp -implicitDefEqProofs only [go_sem,Z1,Z2,Z3,Z4]
   rw [hA]
   exact ⟨rfl,rfl⟩
theorem c_laws_markCnf (m:Int) (ts:List (List Int)) (k:Int) (h0:0 ≤ k) (h1:k + ctL List.length ts ≤ 4398046511104):C E.P 30 [.agg [iv m,.acc 0],iv k] [some (.tre 44 (iiT ts))] (Eq2 (iv (mkL (mkL mkI) ts k).2) [some (.tre 44 (iiT (mkL (mkL mkI) ts k).1))]):=by
 have hLB:=LB_eq
 refine C_goS (nt:=10) (rs:=[.tmp 4]) hm Tryz.func30 rfl rfl rfl rfl rfl (fun hl he=>?_)
 simp -implicitDefEqProofs only [go_sem,Z1,Z2,Z3,Z4] at hl ⊢
 refine atOwn [] [0] (c_laws_markIntSS ts k h0 h1) ?_ ?_ <;> simp -implicitDefEqProofs only [go_sem,Z1,Z2,Z3,Z4]
 try (with_reducible refine ind_andM (by kernel_rfl) ?_)
 refine finM' [some 0] ?_ rfl rfl
 simp -implicitDefEqProofs only [go_sem,Z1,Z2,Z3,Z4]
theorem c_laws_markWhyS1 (ts:List Why) (ih:∀ t ∈ ts,∀ (k:Int),0 ≤ k → k + ctWhys t.kids ≤ 4398046511104 → C E.P 106 [.acc 0,iv k] [some (.tre 113 (wyTs t.kids))] (Eq2 (iv (mkWhys t.kids k).2) [some (.tre 113 (wyTs (mkWhys t.kids k).1))]))
 (k:Int) (h0:0 ≤ k) (h1:k + ctWhys ts ≤ 4398046511104):C E.P 106 [.acc 0,iv k] [some (.tre 113 (wyTs ts))] (Eq2 (iv (mkWhys ts k).2) [some (.tre 113 (wyTs (mkWhys ts k).1))]):=by
 rw [mkWhys_L]
 have hLB:=LB_eq
 refine C_goS (nt:=51) (rs:=[.tmp 4]) hm Tryz.func106 rfl rfl rfl rfl rfl (fun hl he=>?_)
 simp -implicitDefEqProofs only [go_sem,Z1,Z2,Z3,Z4] at hl ⊢
 simp -implicitDefEqProofs only [go_sem,Z1,Z2,Z3,Z4] at he
 refine loop_gow3 (fun (i:Nat) (zs:List Why) (q:Int)=> Mk mkWhy ts k i zs q) (fun (i:Nat) (zs:List Why) (q:Int)=> ⟨mkS 51 .any [(0,.acc 0),(1,iv q),(5,iv i)],[some (.tre 113 (wyTs zs))]⟩) (fun (i:Nat) (zs:List Why) (q:Int)=> ts.length - i) (0) (ts) (k) ?_ (weakS [some 0] ?_ ?_ rfl rfl) ?_
 rotate_left
 ·simp -implicitDefEqProofs only [go_sem,Z1,Z2,Z3,Z4]
  all_goals (first | done | (exact ⟨rfl,wyTs_ok _⟩) | (simp [wks_rfl, *]; done) | (simp [wks_rfl]; done) | (simp; omega) | skip)
 ·simp -implicitDefEqProofs only [go_sem,Z1,Z2,Z3,Z4]
  all_goals (first | done | (exact ⟨rfl,wyTs_ok _⟩) | (simp [wks_rfl, *]; done) | (simp [wks_rfl]; done) | (simp; omega) | skip)
 rotate_left
 ·exact Mk.zero _ _ _
 ·rintro i zs q hI
  have hl9:=hI.len
  have hct:=hI.ct (c:=ctWhy) mkWhy_ct
  have hdr:=ctL_drop ctWhy ts i
  rw [← ctWhys_L ts] at hct hdr
  rcases Classical.em (i < ts.length) with h2 | h2
  ·have h2':i < zs.length:=by omega
   have h2'':i < (wyTs zs).length:=by rw [wyTs_len]; exact h2'
   have hat:=ctL_at ctWhy ts i h2
   rw [ctWhy_eq,ctT_eq] at hat
   have hrow:rwT (wyTs zs) i = cWyT ts[i]:=by rw [wyTs_row h2',hI.at h2]
   have hrs:∀ r,rwT ((wyTs zs).set i r) i = r:=fun r=>rwT_set h2''
   have hmk:=hI.step h2
   have hc:∀ (k:Int),0 ≤ k → k + ctWhys ts[i].kids ≤ 4398046511104 → _:=ih ts[i] (List.getElem_mem h2)
   generalize ts[i] = t at hat hrow hmk hc ⊢
   obtain ⟨r1,hr1⟩:∃ r,(mkTs t.t.kids (q + 1 + 1 + 1)).2 = r:=⟨_,rfl⟩
   have hf:mkWhy t q = (.mk q (q + 1) (.mk (mkText (q + 1 + 1)) (mkTs t.t.kids (q + 1 + 1 + 1)).1) (mkWhys t.kids r1).1,(mkWhys t.kids r1).2):=by
    simp only [mkWhy_eq,mkT_eq,hr1]
   have c1:=mkTs_ct t.t.kids (q + 1 + 1 + 1)
   rw [hr1] at c1
   have hset:=wyTs_set zs i (mkWhy t q).1
   obtain ⟨zs',hz⟩:∃ zs',zs' = zs.set i (mkWhy t q).1:=⟨_,rfl⟩
   rw [← hz] at hmk hset
   rw [hf] at hmk hset
   simp only [cWyT,Why.rule,Why.n,Why.t,Why.kids,Term.name,Term.kids] at hset
   rw [cWyT] at hrow
   refine W_take hm 0 i _ rfl h2'' hrow ?_
   simp -implicitDefEqProofs only [go_sem,Z1,Z2,Z3,Z4,h2,hl9,hrs]
   try (with_reducible refine ind_andM (by kernel_rfl) ?_)
   repeat (first | with_reducible refine ind_andM (by kernel_rfl) ?_ | (with_reducible apply And.intro; case left=>first | omega | assumption | exact ⟨rowsT_all _,by omega⟩ | exact ⟨rowsI_all _,by omega⟩ | exact ⟨rowsLit_all _,by omega⟩ | exact ⟨rowsLin_all _,by omega⟩ | exact ⟨rowsEq_all _,by omega⟩ | rfl | (simp [*]; done) | (simp; omega) | exact ⟨rowsRat_all _,by omega⟩ | exact ⟨rowsAtom_all _,by omega⟩ | exact ⟨rowsB_all _,by omega⟩ | exact ⟨rowsForm_all _,by omega⟩ | exact ⟨rowsII_all _,by omega⟩))
   refine atCall [] (c_laws_markText (q + 1 + 1) (by omega)) ?_ ?_ <;> simp -implicitDefEqProofs only [go_sem,Z1,Z2,Z3,Z4,hrs,hl9]
   try (with_reducible refine ind_andM (by kernel_rfl) ?_)
   repeat (first | with_reducible refine ind_andM (by kernel_rfl) ?_ | (with_reducible apply And.intro; case left=>first | omega | assumption | exact ⟨rowsT_all _,by omega⟩ | exact ⟨rowsI_all _,by omega⟩ | exact ⟨rowsLit_all _,by omega⟩ | exact ⟨rowsLin_all _,by omega⟩ | exact ⟨rowsEq_all _,by omega⟩ | rfl | (simp [*]; done) | (simp; omega) | exact ⟨rowsRat_all _,by omega⟩ | exact ⟨rowsAtom_all _,by omega⟩ | exact ⟨rowsB_all _,by omega⟩ | exact ⟨rowsForm_all _,by omega⟩ | exact ⟨rowsII_all _,by omega⟩))
   refine atOwn [] [1] (c_laws_markTermS t.t.kids (q + 1 + 1 + 1) (by omega) (by omega)) ?_ ?_ <;> simp -implicitDefEqProofs only [go_sem,Z1,Z2,Z3,Z4,hrs,hl9]
   try (with_reducible refine ind_andM (by kernel_rfl) ?_)
   rw [hr1]
   try simp -implicitDefEqProofs only [go_sem,Z1,Z2,Z3,Z4,hrs,hl9]
   try (with_reducible refine ind_andM (by kernel_rfl) ?_)
   repeat (first | with_reducible refine ind_andM (by kernel_rfl) ?_ | (with_reducible apply And.intro; case left=>first | omega | assumption | exact ⟨rowsT_all _,by omega⟩ | exact ⟨rowsI_all _,by omega⟩ | exact ⟨rowsLit_all _,by omega⟩ | exact ⟨rowsLin_all _,by omega⟩ | exact ⟨rowsEq_all _,by omega⟩ | rfl | (simp [*]; done) | (simp; omega) | exact ⟨rowsRat_all _,by omega⟩ | exact ⟨rowsAtom_all _,by omega⟩ | exact ⟨rowsB_all _,by omega⟩ | exact ⟨rowsForm_all _,by omega⟩ | exact ⟨rowsII_all _,by omega⟩))
   refine atOwn [] [2] ((hc r1 (by omega) (by omega))) ?_ ?_ <;> simp -implicitDefEqProofs only [go_sem,Z1,Z2,Z3,Z4,hrs,hl9]
   try (with_reducible refine ind_andM (by kernel_rfl) ?_)
   repeat (first | with_reducible refine ind_andM (by kernel_rfl) ?_ | (with_reducible apply And.intro; case left=>first | omega | assumption | exact ⟨rowsT_all _,by omega⟩ | exact ⟨rowsI_all _,by omega⟩ | exact ⟨rowsLit_all _,by omega⟩ | exact ⟨rowsLin_all _,by omega⟩ | exact ⟨rowsEq_all _,by omega⟩ | rfl | (simp [*]; done) | (simp; omega) | exact ⟨rowsRat_all _,by omega⟩ | exact ⟨rowsAtom_all _,by omega⟩ | exact ⟨rowsB_all _,by omega⟩ | exact ⟨rowsForm_all _,by omega⟩ | exact ⟨rowsII_all _,by omega⟩))
   refine ⟨i + 1,zs',(mkWhys t.kids r1).2,?_,?_,weak_put 0 i _ rfl (by rw [List.length_set]; exact h2'') (hrs _) ?_⟩
   rotate_left
   ·show _ < _
    omega
   ·simp -implicitDefEqProofs only [go_sem,Z1,Z2,Z3,Z4]
    refine weakS [some 0] ?_ ?_ rfl rfl
    ·simp -implicitDefEqProofs only [go_sem,Z1,Z2,Z3,Z4]
     all_goals (first | done | (exact ⟨hset,(congrArg (fun z=>(frzRows z).isSome) hset).trans (wyTs_ok _)⟩) | (simp [wks_rfl, *]; done) | (simp [wks_rfl]; done) | (simp; omega) | skip)
    ·simp -implicitDefEqProofs only [go_sem,Z1,Z2,Z3,Z4]
     all_goals (first | done | (exact ⟨hset,(congrArg (fun z=>(frzRows z).isSome) hset).trans (wyTs_ok _)⟩) | (simp [wks_rfl, *]; done) | (simp [wks_rfl]; done) | (simp; omega) | skip)
   exact hmk
  ·have hA:=hI.all (by omega)
   refine W_ofc hm ?_
   try simp -implicitDefEqProofs only [go_sem,Z1,Z2,Z3,Z4,h2,hl9]
   try (with_reducible refine ind_andM (by kernel_rfl) ?_)
   refine finM' [some 0] ?_ rfl rfl
   simp -implicitDefEqProofs only [go_sem,Z1,Z2,Z3,Z4]
   rw [hA]
   exact ⟨rfl,rfl⟩
theorem c_laws_markWhyS0:∀ (t:Why) (k:Int),0 ≤ k → k + ctWhys t.kids ≤ 4398046511104 → C E.P 106 [.acc 0,iv k] [some (.tre 113 (wyTs t.kids))] (Eq2 (iv (mkWhys t.kids k).2) [some (.tre 113 (wyTs (mkWhys t.kids k).1))]):=
 Why.ind fun _ _ _ ks ih k h0 h1=>c_laws_markWhyS1 ks ih k h0 h1
theorem c_laws_markWhyS (ts:List Why) (k:Int) (h0:0 ≤ k) (h1:k + ctWhys ts ≤ 4398046511104):C E.P 106 [.acc 0,iv k] [some (.tre 113 (wyTs ts))] (Eq2 (iv (mkWhys ts k).2) [some (.tre 113 (wyTs (mkWhys ts k).1))]):=
 c_laws_markWhyS1 ts (fun t _=>c_laws_markWhyS0 t) k h0 h1
theorem c_laws_markCaseS1 (ts:List Case) (ih:∀ t ∈ ts,∀ (k:Int),0 ≤ k → k + ctCases t.kids ≤ 4398046511104 → C E.P 107 [.acc 0,iv k] [some (.tre 116 (csTs t.kids))] (Eq2 (iv (mkCases t.kids k).2) [some (.tre 116 (csTs (mkCases t.kids k).1))]))
 (k:Int) (h0:0 ≤ k) (h1:k + ctCases ts ≤ 4398046511104):C E.P 107 [.acc 0,iv k] [some (.tre 116 (csTs ts))] (Eq2 (iv (mkCases ts k).2) [some (.tre 116 (csTs (mkCases ts k).1))]):=by
 rw [mkCases_L]
 have hLB:=LB_eq
 refine C_goS (nt:=118) (rs:=[.tmp 4]) hm Tryz.func107 rfl rfl rfl rfl rfl (fun hl he=>?_)
 simp -implicitDefEqProofs only [go_sem,Z1,Z2,Z3,Z4] at hl ⊢
 simp -implicitDefEqProofs only [go_sem,Z1,Z2,Z3,Z4] at he
 refine loop_gow3 (fun (i:Nat) (zs:List Case) (q:Int)=> Mk mkCase ts k i zs q) (fun (i:Nat) (zs:List Case) (q:Int)=> ⟨mkS 118 .any [(0,.acc 0),(1,iv q),(5,iv i)],[some (.tre 116 (csTs zs))]⟩) (fun (i:Nat) (zs:List Case) (q:Int)=> ts.length - i) (0) (ts) (k) ?_ (weakS [some 0] ?_ ?_ rfl rfl) ?_
 rotate_left
 ·simp -implicitDefEqProofs only [go_sem,Z1,Z2,Z3,Z4]
  all_goals (first | done | (exact ⟨rfl,csTs_ok _⟩) | (simp [wks_rfl, *]; done) | (simp [wks_rfl]; done) | (simp; omega) | skip)
 ·simp -implicitDefEqProofs only [go_sem,Z1,Z2,Z3,Z4]
  all_goals (first | done | (exact ⟨rfl,csTs_ok _⟩) | (simp [wks_rfl, *]; done) | (simp [wks_rfl]; done) | (simp; omega) | skip)
 rotate_left
 ·exact Mk.zero _ _ _
 ·rintro i zs q hI
  have hl9:=hI.len
  have hct:=hI.ct (c:=ctCase) mkCase_ct
  have hdr:=ctL_drop ctCase ts i
  rw [← ctCases_L ts] at hct hdr
  rcases Classical.em (i < ts.length) with h2 | h2
  ·have h2':i < zs.length:=by omega
   have h2'':i < (csTs zs).length:=by rw [csTs_len]; exact h2'
   have hat:=ctL_at ctCase ts i h2
   rw [ctCase_eq,ctWhy_eq,ctT_eq,ctT_eq,ctT_eq] at hat
   have hrow:rwT (csTs zs) i = cCsT ts[i]:=by rw [csTs_row h2',hI.at h2]
   have hrs:∀ r,rwT ((csTs zs).set i r) i = r:=fun r=>rwT_set h2''
   have hmk:=hI.step h2
   have hc:∀ (k:Int),0 ≤ k → k + ctCases ts[i].kids ≤ 4398046511104 → _:=ih ts[i] (List.getElem_mem h2)
   generalize ts[i] = t at hat hrow hmk hc ⊢
   obtain ⟨r1,hr1⟩:∃ r,(mkTs t.why.t.kids (q + 1 + 1 + 1 + 1 + 1)).2 = r:=⟨_,rfl⟩
   obtain ⟨r2,hr2⟩:∃ r,(mkWhys t.why.kids r1).2 = r:=⟨_,rfl⟩
   obtain ⟨r3,hr3⟩:∃ r,(mkL mkI t.times r2).2 = r:=⟨_,rfl⟩
   obtain ⟨r4,hr4⟩:∃ r,(mkTs t.A.kids (r3 + 1)).2 = r:=⟨_,rfl⟩
   obtain ⟨r5,hr5⟩:∃ r,(mkTs t.B.kids (r4 + 1)).2 = r:=⟨_,rfl⟩
   have hcase:mkCase t q = (.mk q (q + 1) (.mk (q + 1 + 1) (q + 1 + 1 + 1) (.mk (mkText (q + 1 + 1 + 1 + 1)) (mkTs t.why.t.kids (q + 1 + 1 + 1 + 1 + 1)).1) (mkWhys t.why.kids r1).1) (mkL mkI t.times r2).1 (.mk (mkText r3) (mkTs t.A.kids (r3 + 1)).1) (.mk (mkText r4) (mkTs t.B.kids (r4 + 1)).1) (mkCases t.kids r5).1,(mkCases t.kids r5).2):=by
    simp only [mkCase_eq,mkWhy_eq,mkT_eq,hr1,hr2,hr3,hr4,hr5]
   have c1:=mkTs_ct t.why.t.kids (q + 1 + 1 + 1 + 1 + 1)
   have c2:=mkWhys_ct t.why.kids r1
   have c3:=mkI_ct t.times r2
   have c4:=mkTs_ct t.A.kids (r3 + 1)
   have c5:=mkTs_ct t.B.kids (r4 + 1)
   rw [hr1] at c1
   rw [hr2] at c2
   rw [hr3] at c3
   rw [hr4] at c4
   rw [hr5] at c5
   have hset:=csTs_set zs i (mkCase t q).1
   obtain ⟨zs',hz⟩:∃ zs',zs' = zs.set i (mkCase t q).1:=⟨_,rfl⟩
   rw [← hz] at hmk hset
   rw [hcase] at hmk hset
   simp only [cCsT,Case.kind,Case.n,Case.why,Case.times,Case.A,Case.B,Case.kids,Why.rule,Why.n,Why.t,Why.kids,Term.name,Term.kids] at hset
   rw [cCsT] at hrow
   refine W_take hm 0 i _ rfl h2'' hrow ?_
   simp -implicitDefEqProofs only [go_sem,Z1,Z2,Z3,Z4,h2,hl9,hrs]
   try (with_reducible refine ind_andM (by kernel_rfl) ?_)
   repeat (first | with_reducible refine ind_andM (by kernel_rfl) ?_ | (with_reducible apply And.intro; case left=>first | omega | assumption | exact ⟨rowsT_all _,by omega⟩ | exact ⟨rowsI_all _,by omega⟩ | exact ⟨rowsLit_all _,by omega⟩ | exact ⟨rowsLin_all _,by omega⟩ | exact ⟨rowsEq_all _,by omega⟩ | rfl | (simp [*]; done) | (simp; omega) | exact ⟨rowsRat_all _,by omega⟩ | exact ⟨rowsAtom_all _,by omega⟩ | exact ⟨rowsB_all _,by omega⟩ | exact ⟨rowsForm_all _,by omega⟩ | exact ⟨rowsII_all _,by omega⟩))
   refine atCall [] (c_laws_markText (q + 1 + 1 + 1 + 1) (by omega)) ?_ ?_ <;> simp -implicitDefEqProofs only [go_sem,Z1,Z2,Z3,Z4,hrs,hl9]
   try (with_reducible refine ind_andM (by kernel_rfl) ?_)
   repeat (first | with_reducible refine ind_andM (by kernel_rfl) ?_ | (with_reducible apply And.intro; case left=>first | omega | assumption | exact ⟨rowsT_all _,by omega⟩ | exact ⟨rowsI_all _,by omega⟩ | exact ⟨rowsLit_all _,by omega⟩ | exact ⟨rowsLin_all _,by omega⟩ | exact ⟨rowsEq_all _,by omega⟩ | rfl | (simp [*]; done) | (simp; omega) | exact ⟨rowsRat_all _,by omega⟩ | exact ⟨rowsAtom_all _,by omega⟩ | exact ⟨rowsB_all _,by omega⟩ | exact ⟨rowsForm_all _,by omega⟩ | exact ⟨rowsII_all _,by omega⟩))
   refine atOwn [] [1] (c_laws_markTermS t.why.t.kids (q + 1 + 1 + 1 + 1 + 1) (by omega) (by omega)) ?_ ?_ <;> simp -implicitDefEqProofs only [go_sem,Z1,Z2,Z3,Z4,hrs,hl9]
   try (with_reducible refine ind_andM (by kernel_rfl) ?_)
   rw [hr1]
   try simp -implicitDefEqProofs only [go_sem,Z1,Z2,Z3,Z4,hrs,hl9]
   try (with_reducible refine ind_andM (by kernel_rfl) ?_)
   repeat (first | with_reducible refine ind_andM (by kernel_rfl) ?_ | (with_reducible apply And.intro; case left=>first | omega | assumption | exact ⟨rowsT_all _,by omega⟩ | exact ⟨rowsI_all _,by omega⟩ | exact ⟨rowsLit_all _,by omega⟩ | exact ⟨rowsLin_all _,by omega⟩ | exact ⟨rowsEq_all _,by omega⟩ | rfl | (simp [*]; done) | (simp; omega) | exact ⟨rowsRat_all _,by omega⟩ | exact ⟨rowsAtom_all _,by omega⟩ | exact ⟨rowsB_all _,by omega⟩ | exact ⟨rowsForm_all _,by omega⟩ | exact ⟨rowsII_all _,by omega⟩))
   refine atOwn [] [2] (c_laws_markWhyS t.why.kids r1 (by omega) (by omega)) ?_ ?_ <;> simp -implicitDefEqProofs only [go_sem,Z1,Z2,Z3,Z4,hrs,hl9]
   try (with_reducible refine ind_andM (by kernel_rfl) ?_)
   rw [hr2]
   try simp -implicitDefEqProofs only [go_sem,Z1,Z2,Z3,Z4,hrs,hl9]
   try (with_reducible refine ind_andM (by kernel_rfl) ?_)
   repeat (first | with_reducible refine ind_andM (by kernel_rfl) ?_ | (with_reducible apply And.intro; case left=>first | omega | assumption | exact ⟨rowsT_all _,by omega⟩ | exact ⟨rowsI_all _,by omega⟩ | exact ⟨rowsLit_all _,by omega⟩ | exact ⟨rowsLin_all _,by omega⟩ | exact ⟨rowsEq_all _,by omega⟩ | rfl | (simp [*]; done) | (simp; omega) | exact ⟨rowsRat_all _,by omega⟩ | exact ⟨rowsAtom_all _,by omega⟩ | exact ⟨rowsB_all _,by omega⟩ | exact ⟨rowsForm_all _,by omega⟩ | exact ⟨rowsII_all _,by omega⟩))
   refine atOwn [] [3] (c_laws_markIntS t.times r2 (by omega) (by omega)) ?_ ?_ <;> simp -implicitDefEqProofs only [go_sem,Z1,Z2,Z3,Z4,hrs,hl9]
   try (with_reducible refine ind_andM (by kernel_rfl) ?_)
   rw [hr3]
   try simp -implicitDefEqProofs only [go_sem,Z1,Z2,Z3,Z4,hrs,hl9]
   try (with_reducible refine ind_andM (by kernel_rfl) ?_)
   repeat (first | with_reducible refine ind_andM (by kernel_rfl) ?_ | (with_reducible apply And.intro; case left=>first | omega | assumption | exact ⟨rowsT_all _,by omega⟩ | exact ⟨rowsI_all _,by omega⟩ | exact ⟨rowsLit_all _,by omega⟩ | exact ⟨rowsLin_all _,by omega⟩ | exact ⟨rowsEq_all _,by omega⟩ | rfl | (simp [*]; done) | (simp; omega) | exact ⟨rowsRat_all _,by omega⟩ | exact ⟨rowsAtom_all _,by omega⟩ | exact ⟨rowsB_all _,by omega⟩ | exact ⟨rowsForm_all _,by omega⟩ | exact ⟨rowsII_all _,by omega⟩))
   refine atCall [] (c_laws_markText r3 (by omega)) ?_ ?_ <;> simp -implicitDefEqProofs only [go_sem,Z1,Z2,Z3,Z4,hrs,hl9]
   try (with_reducible refine ind_andM (by kernel_rfl) ?_)
   repeat (first | with_reducible refine ind_andM (by kernel_rfl) ?_ | (with_reducible apply And.intro; case left=>first | omega | assumption | exact ⟨rowsT_all _,by omega⟩ | exact ⟨rowsI_all _,by omega⟩ | exact ⟨rowsLit_all _,by omega⟩ | exact ⟨rowsLin_all _,by omega⟩ | exact ⟨rowsEq_all _,by omega⟩ | rfl | (simp [*]; done) | (simp; omega) | exact ⟨rowsRat_all _,by omega⟩ | exact ⟨rowsAtom_all _,by omega⟩ | exact ⟨rowsB_all _,by omega⟩ | exact ⟨rowsForm_all _,by omega⟩ | exact ⟨rowsII_all _,by omega⟩))
   refine atOwn [] [4] (c_laws_markTermS t.A.kids (r3 + 1) (by omega) (by omega)) ?_ ?_ <;> simp -implicitDefEqProofs only [go_sem,Z1,Z2,Z3,Z4,hrs,hl9]
   try (with_reducible refine ind_andM (by kernel_rfl) ?_)
   rw [hr4]
   try simp -implicitDefEqProofs only [go_sem,Z1,Z2,Z3,Z4,hrs,hl9]
   try (with_reducible refine ind_andM (by kernel_rfl) ?_)
   repeat (first | with_reducible refine ind_andM (by kernel_rfl) ?_ | (with_reducible apply And.intro; case left=>first | omega | assumption | exact ⟨rowsT_all _,by omega⟩ | exact ⟨rowsI_all _,by omega⟩ | exact ⟨rowsLit_all _,by omega⟩ | exact ⟨rowsLin_all _,by omega⟩ | exact ⟨rowsEq_all _,by omega⟩ | rfl | (simp [*]; done) | (simp; omega) | exact ⟨rowsRat_all _,by omega⟩ | exact ⟨rowsAtom_all _,by omega⟩ | exact ⟨rowsB_all _,by omega⟩ | exact ⟨rowsForm_all _,by omega⟩ | exact ⟨rowsII_all _,by omega⟩))
   refine atCall [] (c_laws_markText r4 (by omega)) ?_ ?_ <;> simp -implicitDefEqProofs only [go_sem,Z1,Z2,Z3,Z4,hrs,hl9]
   try (with_reducible refine ind_andM (by kernel_rfl) ?_)
   repeat (first | with_reducible refine ind_andM (by kernel_rfl) ?_ | (with_reducible apply And.intro; case left=>first | omega | assumption | exact ⟨rowsT_all _,by omega⟩ | exact ⟨rowsI_all _,by omega⟩ | exact ⟨rowsLit_all _,by omega⟩ | exact ⟨rowsLin_all _,by omega⟩ | exact ⟨rowsEq_all _,by omega⟩ | rfl | (simp [*]; done) | (simp; omega) | exact ⟨rowsRat_all _,by omega⟩ | exact ⟨rowsAtom_all _,by omega⟩ | exact ⟨rowsB_all _,by omega⟩ | exact ⟨rowsForm_all _,by omega⟩ | exact ⟨rowsII_all _,by omega⟩))
   refine atOwn [] [5] (c_laws_markTermS t.B.kids (r4 + 1) (by omega) (by omega)) ?_ ?_ <;> simp -implicitDefEqProofs only [go_sem,Z1,Z2,Z3,Z4,hrs,hl9]
   try (with_reducible refine ind_andM (by kernel_rfl) ?_)
   rw [hr5]
   try simp -implicitDefEqProofs only [go_sem,Z1,Z2,Z3,Z4,hrs,hl9]
   try (with_reducible refine ind_andM (by kernel_rfl) ?_)
   repeat (first | with_reducible refine ind_andM (by kernel_rfl) ?_ | (with_reducible apply And.intro; case left=>first | omega | assumption | exact ⟨rowsT_all _,by omega⟩ | exact ⟨rowsI_all _,by omega⟩ | exact ⟨rowsLit_all _,by omega⟩ | exact ⟨rowsLin_all _,by omega⟩ | exact ⟨rowsEq_all _,by omega⟩ | rfl | (simp [*]; done) | (simp; omega) | exact ⟨rowsRat_all _,by omega⟩ | exact ⟨rowsAtom_all _,by omega⟩ | exact ⟨rowsB_all _,by omega⟩ | exact ⟨rowsForm_all _,by omega⟩ | exact ⟨rowsII_all _,by omega⟩))
   refine atOwn [] [6] ((hc r5 (by omega) (by omega))) ?_ ?_ <;> simp -implicitDefEqProofs only [go_sem,Z1,Z2,Z3,Z4,hrs,hl9]
   try (with_reducible refine ind_andM (by kernel_rfl) ?_)
   repeat (first | with_reducible refine ind_andM (by kernel_rfl) ?_ | (with_reducible apply And.intro; case left=>first | omega | assumption | exact ⟨rowsT_all _,by omega⟩ | exact ⟨rowsI_all _,by omega⟩ | exact ⟨rowsLit_all _,by omega⟩ | exact ⟨rowsLin_all _,by omega⟩ | exact ⟨rowsEq_all _,by omega⟩ | rfl | (simp [*]; done) | (simp; omega) | exact ⟨rowsRat_all _,by omega⟩ | exact ⟨rowsAtom_all _,by omega⟩ | exact ⟨rowsB_all _,by omega⟩ | exact ⟨rowsForm_all _,by omega⟩ | exact ⟨rowsII_all _,by omega⟩))
   refine ⟨i + 1,zs',(mkCases t.kids r5).2,?_,?_,weak_put 0 i _ rfl (by rw [List.length_set]; exact h2'') (hrs _) ?_⟩
   rotate_left
   ·show _ < _
    omega
   ·simp -implicitDefEqProofs only [go_sem,Z1,Z2,Z3,Z4]
    refine weakS [some 0] ?_ ?_ rfl rfl
    ·simp -implicitDefEqProofs only [go_sem,Z1,Z2,Z3,Z4]
     all_goals (first | done | (exact ⟨hset,(congrArg (fun z=>(frzRows z).isSome) hset).trans (csTs_ok _)⟩) | (simp [wks_rfl, *]; done) | (simp [wks_rfl]; done) | (simp; omega) | skip)
    ·simp -implicitDefEqProofs only [go_sem,Z1,Z2,Z3,Z4]
     all_goals (first | done | (exact ⟨hset,(congrArg (fun z=>(frzRows z).isSome) hset).trans (csTs_ok _)⟩) | (simp [wks_rfl, *]; done) | (simp [wks_rfl]; done) | (simp; omega) | skip)
   exact hmk
  ·have hA:=hI.all (by omega)
   refine W_ofc hm ?_
   try simp -implicitDefEqProofs only [go_sem,Z1,Z2,Z3,Z4,h2,hl9]
   try (with_reducible refine ind_andM (by kernel_rfl) ?_)
   refine finM' [some 0] ?_ rfl rfl
   simp -implicitDefEqProofs only [go_sem,Z1,Z2,Z3,Z4]
   rw [hA]
   exact ⟨rfl,rfl⟩
theorem c_laws_markCaseS0:∀ (t:Case) (k:Int),0 ≤ k → k + ctCases t.kids ≤ 4398046511104 → C E.P 107 [.acc 0,iv k] [some (.tre 116 (csTs t.kids))] (Eq2 (iv (mkCases t.kids k).2) [some (.tre 116 (csTs (mkCases t.kids k).1))]):=
 Case.ind fun _ _ _ _ _ _ ks ih k h0 h1=>c_laws_markCaseS1 ks ih k h0 h1
theorem c_laws_markCaseS (ts:List Case) (k:Int) (h0:0 ≤ k) (h1:k + ctCases ts ≤ 4398046511104):C E.P 107 [.acc 0,iv k] [some (.tre 116 (csTs ts))] (Eq2 (iv (mkCases ts k).2) [some (.tre 116 (csTs (mkCases ts k).1))]):=
 c_laws_markCaseS1 ts (fun t _=>c_laws_markCaseS0 t) k h0 h1
theorem c_laws_markLemmaS (ts:List Mod.Lemma) (k:Int) (h0:0 ≤ k) (h1:k + ctL ctLemma ts ≤ 4398046511104):C E.P 66 [.acc 0,iv k] [some (.tre 118 (lmT ts))] (Eq2 (iv (mkL mkLemma ts k).2) [some (.tre 118 (lmT (mkL mkLemma ts k).1))]):=by
 have hLB:=LB_eq
 refine C_goS (nt:=138) (rs:=[.tmp 4]) hm Tryz.func66 rfl rfl rfl rfl rfl (fun hl he=>?_)
 simp -implicitDefEqProofs only [go_sem,Z1,Z2,Z3,Z4] at hl ⊢
 simp -implicitDefEqProofs only [go_sem,Z1,Z2,Z3,Z4] at he
 refine loop_gow3 (fun (i:Nat) (zs:List Mod.Lemma) (q:Int)=> Mk mkLemma ts k i zs q) (fun (i:Nat) (zs:List Mod.Lemma) (q:Int)=> ⟨mkS 138 .any [(0,.acc 0),(1,iv q),(5,iv i)],[some (.tre 118 (lmT zs))]⟩) (fun (i:Nat) (zs:List Mod.Lemma) (q:Int)=> ts.length - i) (0) (ts) (k) ?_ (weakS [some 0] ?_ ?_ rfl rfl) ?_
 rotate_left
 ·simp -implicitDefEqProofs only [go_sem,Z1,Z2,Z3,Z4]
  all_goals (first | done | (exact ⟨rfl,lmT_ok _⟩) | (simp [wks_rfl, *]; done) | (simp [wks_rfl]; done) | (simp; omega) | skip)
 ·simp -implicitDefEqProofs only [go_sem,Z1,Z2,Z3,Z4]
  all_goals (first | done | (exact ⟨rfl,lmT_ok _⟩) | (simp [wks_rfl, *]; done) | (simp [wks_rfl]; done) | (simp; omega) | skip)
 rotate_left
 ·exact Mk.zero _ _ _
 ·rintro i zs q hI
  have hl9:=hI.len
  have hct:=hI.ct (c:=ctLemma) mkLemma_ct
  have hdr:=ctL_drop ctLemma ts i
  rcases Classical.em (i < ts.length) with h2 | h2
  ·have h2':i < zs.length:=by omega
   have h2'':i < (lmT zs).length:=by rw [lmT_len]; exact h2'
   have hat:=ctL_at ctLemma ts i h2
   rw [ctLemma,ctCase_eq,ctWhy_eq,ctT_eq,ctT_eq,ctT_eq] at hat
   have hrow:rwT (lmT zs) i = cLmT ts[i]:=by rw [lmT_row h2',hI.at h2]
   have hrs:∀ r,rwT ((lmT zs).set i r) i = r:=fun r=>rwT_set h2''
   have hmk:=hI.step h2
   generalize ts[i] = t at hat hrow hmk ⊢
   obtain ⟨r0,hr0⟩:∃ r,(mkL mkI t.marks q).2 = r:=⟨_,rfl⟩
   have c0:=mkI_ct t.marks q
   rw [hr0] at c0
   obtain ⟨r1,hr1⟩:∃ r,(mkTs t.case.why.t.kids (r0 + 1 + 1 + 1 + 1 + 1)).2 = r:=⟨_,rfl⟩
   obtain ⟨r2,hr2⟩:∃ r,(mkWhys t.case.why.kids r1).2 = r:=⟨_,rfl⟩
   obtain ⟨r3,hr3⟩:∃ r,(mkL mkI t.case.times r2).2 = r:=⟨_,rfl⟩
   obtain ⟨r4,hr4⟩:∃ r,(mkTs t.case.A.kids (r3 + 1)).2 = r:=⟨_,rfl⟩
   obtain ⟨r5,hr5⟩:∃ r,(mkTs t.case.B.kids (r4 + 1)).2 = r:=⟨_,rfl⟩
   have hcase:mkCase t.case r0 = (.mk r0 (r0 + 1) (.mk (r0 + 1 + 1) (r0 + 1 + 1 + 1) (.mk (mkText (r0 + 1 + 1 + 1 + 1)) (mkTs t.case.why.t.kids (r0 + 1 + 1 + 1 + 1 + 1)).1) (mkWhys t.case.why.kids r1).1) (mkL mkI t.case.times r2).1 (.mk (mkText r3) (mkTs t.case.A.kids (r3 + 1)).1) (.mk (mkText r4) (mkTs t.case.B.kids (r4 + 1)).1) (mkCases t.case.kids r5).1,(mkCases t.case.kids r5).2):=by
    simp only [mkCase_eq,mkWhy_eq,mkT_eq,hr1,hr2,hr3,hr4,hr5]
   have c1:=mkTs_ct t.case.why.t.kids (r0 + 1 + 1 + 1 + 1 + 1)
   have c2:=mkWhys_ct t.case.why.kids r1
   have c3:=mkI_ct t.case.times r2
   have c4:=mkTs_ct t.case.A.kids (r3 + 1)
   have c5:=mkTs_ct t.case.B.kids (r4 + 1)
   rw [hr1] at c1
   rw [hr2] at c2
   rw [hr3] at c3
   rw [hr4] at c4
   rw [hr5] at c5
   have hf:mkLemma t q = (⟨(mkL mkI t.marks q).1,(mkCase t.case r0).1⟩,(mkCase t.case r0).2):=by simp only [mkLemma,hr0]
   rw [hcase] at hf
   have hset:=lmT_set zs i (mkLemma t q).1
   obtain ⟨zs',hz⟩:∃ zs',zs' = zs.set i (mkLemma t q).1:=⟨_,rfl⟩
   rw [← hz] at hmk hset
   rw [hf] at hmk hset
   simp only [cLmT,cCsT,Case.kind,Case.n,Case.why,Case.times,Case.A,Case.B,Case.kids,Why.rule,Why.n,Why.t,Why.kids,Term.name,Term.kids] at hset
   rw [cLmT,cCsT] at hrow
   refine W_take hm 0 i _ rfl h2'' hrow ?_
   simp -implicitDefEqProofs only [go_sem,Z1,Z2,Z3,Z4,h2,hl9,hrs]
   try (with_reducible refine ind_andM (by kernel_rfl) ?_)
   refine atOwn [] [1] (c_laws_markIntS t.marks q (by omega) (by omega)) ?_ ?_ <;> simp -implicitDefEqProofs only [go_sem,Z1,Z2,Z3,Z4,hrs,hl9]
   try (with_reducible refine ind_andM (by kernel_rfl) ?_)
   rw [hr0]
   try simp -implicitDefEqProofs only [go_sem,Z1,Z2,Z3,Z4,hrs,hl9]
   try (with_reducible refine ind_andM (by kernel_rfl) ?_)
   repeat (first | with_reducible refine ind_andM (by kernel_rfl) ?_ | (with_reducible apply And.intro; case left=>first | omega | assumption | exact ⟨rowsT_all _,by omega⟩ | exact ⟨rowsI_all _,by omega⟩ | exact ⟨rowsLit_all _,by omega⟩ | exact ⟨rowsLin_all _,by omega⟩ | exact ⟨rowsEq_all _,by omega⟩ | rfl | (simp [*]; done) | (simp; omega) | exact ⟨rowsRat_all _,by omega⟩ | exact ⟨rowsAtom_all _,by omega⟩ | exact ⟨rowsB_all _,by omega⟩ | exact ⟨rowsForm_all _,by omega⟩ | exact ⟨rowsII_all _,by omega⟩))
   refine atCall [] (c_laws_markText (r0 + 1 + 1 + 1 + 1) (by omega)) ?_ ?_ <;> simp -implicitDefEqProofs only [go_sem,Z1,Z2,Z3,Z4,hrs,hl9]
   try (with_reducible refine ind_andM (by kernel_rfl) ?_)
   repeat (first | with_reducible refine ind_andM (by kernel_rfl) ?_ | (with_reducible apply And.intro; case left=>first | omega | assumption | exact ⟨rowsT_all _,by omega⟩ | exact ⟨rowsI_all _,by omega⟩ | exact ⟨rowsLit_all _,by omega⟩ | exact ⟨rowsLin_all _,by omega⟩ | exact ⟨rowsEq_all _,by omega⟩ | rfl | (simp [*]; done) | (simp; omega) | exact ⟨rowsRat_all _,by omega⟩ | exact ⟨rowsAtom_all _,by omega⟩ | exact ⟨rowsB_all _,by omega⟩ | exact ⟨rowsForm_all _,by omega⟩ | exact ⟨rowsII_all _,by omega⟩))
   refine atOwn [] [2] (c_laws_markTermS t.case.why.t.kids (r0 + 1 + 1 + 1 + 1 + 1) (by omega) (by omega)) ?_ ?_ <;> simp -implicitDefEqProofs only [go_sem,Z1,Z2,Z3,Z4,hrs,hl9]
   try (with_reducible refine ind_andM (by kernel_rfl) ?_)
   rw [hr1]
   try simp -implicitDefEqProofs only [go_sem,Z1,Z2,Z3,Z4,hrs,hl9]
   try (with_reducible refine ind_andM (by kernel_rfl) ?_)
   repeat (first | with_reducible refine ind_andM (by kernel_rfl) ?_ | (with_reducible apply And.intro; case left=>first | omega | assumption | exact ⟨rowsT_all _,by omega⟩ | exact ⟨rowsI_all _,by omega⟩ | exact ⟨rowsLit_all _,by omega⟩ | exact ⟨rowsLin_all _,by omega⟩ | exact ⟨rowsEq_all _,by omega⟩ | rfl | (simp [*]; done) | (simp; omega) | exact ⟨rowsRat_all _,by omega⟩ | exact ⟨rowsAtom_all _,by omega⟩ | exact ⟨rowsB_all _,by omega⟩ | exact ⟨rowsForm_all _,by omega⟩ | exact ⟨rowsII_all _,by omega⟩))
   refine atOwn [] [3] (c_laws_markWhyS t.case.why.kids r1 (by omega) (by omega)) ?_ ?_ <;> simp -implicitDefEqProofs only [go_sem,Z1,Z2,Z3,Z4,hrs,hl9]
   try (with_reducible refine ind_andM (by kernel_rfl) ?_)
   rw [hr2]
   try simp -implicitDefEqProofs only [go_sem,Z1,Z2,Z3,Z4,hrs,hl9]
   try (with_reducible refine ind_andM (by kernel_rfl) ?_)
   repeat (first | with_reducible refine ind_andM (by kernel_rfl) ?_ | (with_reducible apply And.intro; case left=>first | omega | assumption | exact ⟨rowsT_all _,by omega⟩ | exact ⟨rowsI_all _,by omega⟩ | exact ⟨rowsLit_all _,by omega⟩ | exact ⟨rowsLin_all _,by omega⟩ | exact ⟨rowsEq_all _,by omega⟩ | rfl | (simp [*]; done) | (simp; omega) | exact ⟨rowsRat_all _,by omega⟩ | exact ⟨rowsAtom_all _,by omega⟩ | exact ⟨rowsB_all _,by omega⟩ | exact ⟨rowsForm_all _,by omega⟩ | exact ⟨rowsII_all _,by omega⟩))
   refine atOwn [] [4] (c_laws_markIntS t.case.times r2 (by omega) (by omega)) ?_ ?_ <;> simp -implicitDefEqProofs only [go_sem,Z1,Z2,Z3,Z4,hrs,hl9]
   try (with_reducible refine ind_andM (by kernel_rfl) ?_)
   rw [hr3]
   try simp -implicitDefEqProofs only [go_sem,Z1,Z2,Z3,Z4,hrs,hl9]
   try (with_reducible refine ind_andM (by kernel_rfl) ?_)
   repeat (first | with_reducible refine ind_andM (by kernel_rfl) ?_ | (with_reducible apply And.intro; case left=>first | omega | assumption | exact ⟨rowsT_all _,by omega⟩ | exact ⟨rowsI_all _,by omega⟩ | exact ⟨rowsLit_all _,by omega⟩ | exact ⟨rowsLin_all _,by omega⟩ | exact ⟨rowsEq_all _,by omega⟩ | rfl | (simp [*]; done) | (simp; omega) | exact ⟨rowsRat_all _,by omega⟩ | exact ⟨rowsAtom_all _,by omega⟩ | exact ⟨rowsB_all _,by omega⟩ | exact ⟨rowsForm_all _,by omega⟩ | exact ⟨rowsII_all _,by omega⟩))
   refine atCall [] (c_laws_markText r3 (by omega)) ?_ ?_ <;> simp -implicitDefEqProofs only [go_sem,Z1,Z2,Z3,Z4,hrs,hl9]
   try (with_reducible refine ind_andM (by kernel_rfl) ?_)
   repeat (first | with_reducible refine ind_andM (by kernel_rfl) ?_ | (with_reducible apply And.intro; case left=>first | omega | assumption | exact ⟨rowsT_all _,by omega⟩ | exact ⟨rowsI_all _,by omega⟩ | exact ⟨rowsLit_all _,by omega⟩ | exact ⟨rowsLin_all _,by omega⟩ | exact ⟨rowsEq_all _,by omega⟩ | rfl | (simp [*]; done) | (simp; omega) | exact ⟨rowsRat_all _,by omega⟩ | exact ⟨rowsAtom_all _,by omega⟩ | exact ⟨rowsB_all _,by omega⟩ | exact ⟨rowsForm_all _,by omega⟩ | exact ⟨rowsII_all _,by omega⟩))
   refine atOwn [] [5] (c_laws_markTermS t.case.A.kids (r3 + 1) (by omega) (by omega)) ?_ ?_ <;> simp -implicitDefEqProofs only [go_sem,Z1,Z2,Z3,Z4,hrs,hl9]
   try (with_reducible refine ind_andM (by kernel_rfl) ?_)
   rw [hr4]
   try simp -implicitDefEqProofs only [go_sem,Z1,Z2,Z3,Z4,hrs,hl9]
   try (with_reducible refine ind_andM (by kernel_rfl) ?_)
   repeat (first | with_reducible refine ind_andM (by kernel_rfl) ?_ | (with_reducible apply And.intro; case left=>first | omega | assumption | exact ⟨rowsT_all _,by omega⟩ | exact ⟨rowsI_all _,by omega⟩ | exact ⟨rowsLit_all _,by omega⟩ | exact ⟨rowsLin_all _,by omega⟩ | exact ⟨rowsEq_all _,by omega⟩ | rfl | (simp [*]; done) | (simp; omega) | exact ⟨rowsRat_all _,by omega⟩ | exact ⟨rowsAtom_all _,by omega⟩ | exact ⟨rowsB_all _,by omega⟩ | exact ⟨rowsForm_all _,by omega⟩ | exact ⟨rowsII_all _,by omega⟩))
   refine atCall [] (c_laws_markText r4 (by omega)) ?_ ?_ <;> simp -implicitDefEqProofs only [go_sem,Z1,Z2,Z3,Z4,hrs,hl9]
   try (with_reducible refine ind_andM (by kernel_rfl) ?_)
   repeat (first | with_reducible refine ind_andM (by kernel_rfl) ?_ | (with_reducible apply And.intro; case left=>first | omega | assumption | exact ⟨rowsT_all _,by omega⟩ | exact ⟨rowsI_all _,by omega⟩ | exact ⟨rowsLit_all _,by omega⟩ | exact ⟨rowsLin_all _,by omega⟩ | exact ⟨rowsEq_all _,by omega⟩ | rfl | (simp [*]; done) | (simp; omega) | exact ⟨rowsRat_all _,by omega⟩ | exact ⟨rowsAtom_all _,by omega⟩ | exact ⟨rowsB_all _,by omega⟩ | exact ⟨rowsForm_all _,by omega⟩ | exact ⟨rowsII_all _,by omega⟩))
   refine atOwn [] [6] (c_laws_markTermS t.case.B.kids (r4 + 1) (by omega) (by omega)) ?_ ?_ <;> simp -implicitDefEqProofs only [go_sem,Z1,Z2,Z3,Z4,hrs,hl9]
   try (with_reducible refine ind_andM (by kernel_rfl) ?_)
   rw [hr5]
   try simp -implicitDefEqProofs only [go_sem,Z1,Z2,Z3,Z4,hrs,hl9]
   try (with_reducible refine ind_andM (by kernel_rfl) ?_)
   repeat (first | with_reducible refine ind_andM (by kernel_rfl) ?_ | (with_reducible apply And.intro; case left=>first | omega | assumption | exact ⟨rowsT_all _,by omega⟩ | exact ⟨rowsI_all _,by omega⟩ | exact ⟨rowsLit_all _,by omega⟩ | exact ⟨rowsLin_all _,by omega⟩ | exact ⟨rowsEq_all _,by omega⟩ | rfl | (simp [*]; done) | (simp; omega) | exact ⟨rowsRat_all _,by omega⟩ | exact ⟨rowsAtom_all _,by omega⟩ | exact ⟨rowsB_all _,by omega⟩ | exact ⟨rowsForm_all _,by omega⟩ | exact ⟨rowsII_all _,by omega⟩))
   refine atOwn [] [7] (c_laws_markCaseS t.case.kids r5 (by omega) (by omega)) ?_ ?_ <;> simp -implicitDefEqProofs only [go_sem,Z1,Z2,Z3,Z4,hrs,hl9]
   try (with_reducible refine ind_andM (by kernel_rfl) ?_)
   repeat (first | with_reducible refine ind_andM (by kernel_rfl) ?_ | (with_reducible apply And.intro; case left=>first | omega | assumption | exact ⟨rowsT_all _,by omega⟩ | exact ⟨rowsI_all _,by omega⟩ | exact ⟨rowsLit_all _,by omega⟩ | exact ⟨rowsLin_all _,by omega⟩ | exact ⟨rowsEq_all _,by omega⟩ | rfl | (simp [*]; done) | (simp; omega) | exact ⟨rowsRat_all _,by omega⟩ | exact ⟨rowsAtom_all _,by omega⟩ | exact ⟨rowsB_all _,by omega⟩ | exact ⟨rowsForm_all _,by omega⟩ | exact ⟨rowsII_all _,by omega⟩))
   refine ⟨i + 1,zs',(mkCases t.case.kids r5).2,?_,?_,weak_put 0 i _ rfl (by rw [List.length_set]; exact h2'') (hrs _) ?_⟩
   rotate_left
   ·show _ < _
    omega
   ·simp -implicitDefEqProofs only [go_sem,Z1,Z2,Z3,Z4]
    refine weakS [some 0] ?_ ?_ rfl rfl
    ·simp -implicitDefEqProofs only [go_sem,Z1,Z2,Z3,Z4]
     all_goals (first | done | (exact ⟨hset,(congrArg (fun z=>(frzRows z).isSome) hset).trans (lmT_ok _)⟩) | (simp [wks_rfl, *]; done) | (simp [wks_rfl]; done) | (simp; omega) | skip)
    ·simp -implicitDefEqProofs only [go_sem,Z1,Z2,Z3,Z4]
     all_goals (first | done | (exact ⟨hset,(congrArg (fun z=>(frzRows z).isSome) hset).trans (lmT_ok _)⟩) | (simp [wks_rfl, *]; done) | (simp [wks_rfl]; done) | (simp; omega) | skip)
   exact hmk
  ·have hA:=hI.all (by omega)
   refine W_ofc hm ?_
   try simp -implicitDefEqProofs only [go_sem,Z1,Z2,Z3,Z4,h2,hl9]
   try (with_reducible refine ind_andM (by kernel_rfl) ?_)
   refine finM' [some 0] ?_ rfl rfl
   simp -implicitDefEqProofs only [go_sem,Z1,Z2,Z3,Z4]
   rw [hA]
   exact ⟨rfl,rfl⟩
theorem c_laws_markPaper (p:Mod.Paper) (k:Int) (h0:0 ≤ k) (h1:k + ctL ctLemma p.lemmas + ctL List.length p.log ≤ 4398046511104) :
 C E.P 29 [.agg [.acc 0,.acc 1],iv k] [some (.tre 118 (lmT p.lemmas)),some (.tre 44 (iiT p.log))] (Eq2 (iv (mkPaper p k).2) [some (.tre 118 (lmT (mkPaper p k).1.lemmas)),some (.tre 44 (iiT (mkPaper p k).1.log))]):=by
 have hq:=mkL_ct mkLemma_ct p.lemmas k
 have hLB:=LB_eq
 refine C_goS (nt:=14) (rs:=[.tmp 4]) hm Tryz.func29 rfl rfl rfl rfl rfl (fun hl he=>?_)
 simp -implicitDefEqProofs only [go_sem,Z1,Z2,Z3,Z4] at hl ⊢
 refine atOwn [] [0] (c_laws_markLemmaS p.lemmas k h0 (by omega)) ?_ ?_ <;> simp -implicitDefEqProofs only [go_sem,Z1,Z2,Z3,Z4]
 try (with_reducible refine ind_andM (by kernel_rfl) ?_)
 refine atOwn [] [1] (c_laws_markIntSS p.log (mkL mkLemma p.lemmas k).2 (by omega) (by omega)) ?_ ?_ <;> simp -implicitDefEqProofs only [go_sem,Z1,Z2,Z3,Z4]
 try (with_reducible refine ind_andM (by kernel_rfl) ?_)
 refine finM' [some 0,some 1] ?_ rfl rfl
 simp -implicitDefEqProofs only [go_sem,Z1,Z2,Z3,Z4]
 exact ⟨rfl,rfl,rfl⟩
end Go.Proofs.YtgeogofjlhjcmaaGreat
namespace Go.Proofs.YtgeogofjlhjcmaaGreat
open Go.Eng Go.Mod
open Int renaming reduceEq → Z1,reduceLT → Z2,reduceLE → Z3,reduceToNat → Z4
set_option maxRecDepth 100000
set_option maxHeartbeats 400000
theorem c_laws_heldIntSS (ts:List (List Int)) (k:Int) (h0:0 ≤ k) (h1:k + ctL List.length ts ≤ 4398046511104):C E.P 68 [lv (rowsII (mkL (mkL mkI) ts k).1),iv k] [] (Eq2 (iv (mkL (mkL mkI) ts k).2) []):=by
 have hz:=Hd.zero (mkL mkI) ts k
 obtain ⟨zs,hzs⟩:∃ zs,(mkL (mkL mkI) ts k).1 = zs:=⟨_,rfl⟩
 rw [hzs] at hz ⊢
 have hLB:=LB_eq
 refine C_goS (nt:=21) (rs:=[.tmp 4]) hm Tryz.func68 rfl rfl rfl rfl rfl (fun hl he=>?_)
 simp -implicitDefEqProofs only [go_sem,Z1,Z2,Z3,Z4] at hl ⊢
 refine loop_go2 hm (fun (i:Nat) (q:Int)=> Hd (mkL mkI) ts zs k i q) (fun (i:Nat) (q:Int)=> ⟨mkS 21 .any [(0,lv (rowsII zs)),(1,iv q),(5,iv i)],[]⟩) (fun (i:Nat) (q:Int)=> ts.length - i) (0) (k) ?_ (weakS [] ?_ ?_ rfl rfl) ?_
 rotate_left
 ·simp -implicitDefEqProofs only [go_sem,Z1,Z2,Z3,Z4]
  all_goals (first | done | (simp [wks_rfl, *]; done) | (simp [wks_rfl]; done) | (simp; omega) | skip)
 ·simp -implicitDefEqProofs only [go_sem,Z1,Z2,Z3,Z4]
  all_goals (first | done | (simp [wks_rfl, *]; done) | (simp [wks_rfl]; done) | (simp; omega) | skip)
 rotate_left
 ·exact hz
 ·rintro i q hI
  have hl9:=hI.1
  have hct:=hI.ct (c:=List.length) mkI_ct
  have hdr:=ctL_drop List.length ts i
  rcases Classical.em (i < ts.length) with h2 | h2
  ·have h2':i < zs.length:=by omega
   have hat:=ctL_at List.length ts i h2
   have e0:=hI.at h2
   have hst:=hI.step h2
   have hq:=mkI_ct ts[i] q
   have hn:¬ (mkL mkI ts[i] q).2 < 0:=by omega
   try simp -implicitDefEqProofs only [go_sem,Z1,Z2,Z3,Z4,h2',e0]
   try (with_reducible refine ind_andM (by kernel_rfl) ?_)
   refine atCall [] (c_laws_heldIntS ts[i] q (by omega) (by omega)) ?_ ?_ <;> simp -implicitDefEqProofs only [go_sem,Z1,Z2,Z3,Z4,hn,h2']
   try (with_reducible refine ind_andM (by kernel_rfl) ?_)
   repeat (first | with_reducible refine ind_andM (by kernel_rfl) ?_ | (with_reducible apply And.intro; case left=>first | omega | assumption | exact ⟨rowsT_all _,by omega⟩ | exact ⟨rowsI_all _,by omega⟩ | exact ⟨rowsLit_all _,by omega⟩ | exact ⟨rowsLin_all _,by omega⟩ | exact ⟨rowsEq_all _,by omega⟩ | rfl | (simp [*]; done) | (simp; omega) | exact ⟨rowsRat_all _,by omega⟩ | exact ⟨rowsAtom_all _,by omega⟩ | exact ⟨rowsB_all _,by omega⟩ | exact ⟨rowsForm_all _,by omega⟩ | exact ⟨rowsII_all _,by omega⟩))
   refine ⟨i + 1,(mkL mkI ts[i] q).2,?_,?_,weakS [] ?_ ?_ rfl rfl⟩
   rotate_left
   ·show _ < _
    omega
   ·simp -implicitDefEqProofs only [go_sem,Z1,Z2,Z3,Z4]
    all_goals (first | done | (simp [wks_rfl, *]; done) | (simp [wks_rfl]; done) | (simp; omega) | skip)
   ·simp -implicitDefEqProofs only [go_sem,Z1,Z2,Z3,Z4]
    all_goals (first | done | (simp [wks_rfl, *]; done) | (simp [wks_rfl]; done) | (simp; omega) | skip)
   exact hst
  ·have h2':¬ i < zs.length:=by omega
   try simp -implicitDefEqProofs only [go_sem,Z1,Z2,Z3,Z4,h2']
   try (with_reducible refine ind_andM (by kernel_rfl) ?_)
   refine fin1' ?_
   simp -implicitDefEqProofs only [go_sem,Z1,Z2,Z3,Z4]
   rw [hI.all (by omega)]
theorem c_laws_heldCnf (m:Int) (ts:List (List Int)) (k:Int) (h0:0 ≤ k) (h1:k + ctL List.length ts ≤ 4398046511104):C E.P 31 [av (cCnf ⟨m,(mkL (mkL mkI) ts k).1⟩),iv k] [] (Eq2 (iv (mkL (mkL mkI) ts k).2) []):=by
 have hq:=mkL_ct (f:=mkL mkI) (c:=List.length) mkI_ct ts k
 have hn:¬ (mkL (mkL mkI) ts k).2 < 0:=by omega
 have hLB:=LB_eq
 refine C_goS (nt:=12) (rs:=[.tmp 4]) hm Tryz.func31 rfl rfl rfl rfl rfl (fun hl he=>?_)
 simp -implicitDefEqProofs only [go_sem,Z1,Z2,Z3,Z4] at hl ⊢
 refine atCall [] (c_laws_heldIntSS ts k h0 h1) ?_ ?_ <;> simp -implicitDefEqProofs only [go_sem,Z1,Z2,Z3,Z4,hn]
 try (with_reducible refine ind_andM (by kernel_rfl) ?_)
 refine fin1' ?_
 simp -implicitDefEqProofs only [go_sem,Z1,Z2,Z3,Z4]
theorem c_laws_eqCnf (t:Mod.Cnf):C E.P 25 [av (cCnf t),av (cCnf t)] [] (Eq2 (bv true) []):=by
 have hLB:=LB_eq
 refine C_goS (nt:=16) (rs:=[.tmp 4]) hm Tryz.func25 rfl rfl rfl rfl rfl (fun hl he=>?_)
 simp -implicitDefEqProofs only [go_sem,Z1,Z2,Z3,Z4] at hl ⊢
 refine atCall [] (c_laws_eqIntSS t.list (fun t _=>c_laws_eqIntS t)) ?_ ?_ <;> simp -implicitDefEqProofs only [go_sem,Z1,Z2,Z3,Z4]
 try (with_reducible refine ind_andM (by kernel_rfl) ?_)
 refine fin1' ?_
 simp -implicitDefEqProofs only [go_sem,Z1,Z2,Z3,Z4]
 all_goals (first | done | (simp; done) | (simp; omega) | skip)
theorem use_Why:∀ (t:Why),Use (szWhy t) ((ctWhy t:Int) - 3):=Why.ind fun r n t ks ih=>by
 have h:=use_cons (use_Term t) (use_cons (use_S (f:=szWhy) (c:=ctWhy) ks fun x hx=>(ih x hx).le (by omega)) use_nil)
 intro l h0 h1
 rw [szWhy_chn] at h1 ⊢
 have:=h l h0 h1
 rw [ctWhy_eq]
 rw [← ctWhys_L] at this
 simp only [Why.t,Why.kids] at this ⊢
 omega
theorem use_Case:∀ (t:Case),Use (szCase t) ((ctCase t:Int) - 7):=Case.ind fun k n w is a b ks ih=>by
 have h:=use_cons (use_Why w) (use_cons (use_I is) (use_cons (use_Term a) (use_cons (use_Term b) (use_cons (use_S (f:=szCase) (c:=ctCase) ks ih) use_nil))))
 intro l h0 h1
 rw [szCase_chn] at h1 ⊢
 have:=h l h0 h1
 rw [ctCase_eq]
 rw [← ctCases_L] at this
 simp only [Case.why,Case.times,Case.A,Case.B,Case.kids] at this ⊢
 omega
theorem use_Lemma (t:Mod.Lemma):Use (szLemma t) ((ctLemma t:Int) - 7):=by
 have h:=use_cons (use_I t.marks) (use_cons (use_Case t.case) use_nil)
 refine Use.le (f:=szLemma t) (fun l h0 h1=>h l h0 h1) ?_
 unfold ctLemma
 omega
theorem use_Paper (t:Mod.Paper):Use (szPaper t) (ctPaper t):=by
 have h:=use_cons (use_S (f:=szLemma) (c:=ctLemma) t.lemmas fun x _=>use_Lemma x) (use_cons (use_S (f:=szI) (c:=List.length) t.log fun x _=>(use_I x).le (by omega)) use_nil)
 refine Use.le (f:=szPaper t) (fun l h0 h1=>h l h0 h1) ?_
 unfold ctPaper
 omega
end Go.Proofs.YtgeogofjlhjcmaaGreat
