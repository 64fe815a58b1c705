/-
  Stacks: the reference's walks. A step towards the exact laws.
-/
import Derived.Test.YtdikjlldidjioaaGreatKAj
import Derived.Test.YtdikjlldidjioaaGreatKAs
import Derived.Test.YtdikjlldidjioaaGreatKAEa
import Derived.Test.YtdikjlldidjioaaGreatKADa
set_option linter.unusedVariables false
set_option linter.unusedSimpArgs false
namespace Go.Proofs.YtdikjlldidjioaaGreat
open Go.Eng Go.Mod
open Int renaming reduceEq → Z1,reduceLT → Z2,reduceLE → Z3,reduceToNat → Z4
set_option maxRecDepth 100000
set_option maxHeartbeats 400000
theorem c_spec_l6Copy (a:Atom) (hb9:a.times.length ≤ 8000000):C E.P 148 [av (cAtom a)] [] (Eq2 (av (cAtom a)) []):=by
 have ht:=rowsI_all a.times
 have hLB:=LB_eq
 refine C_goS (nt:=41) (rs:=[.cell 2 46]) hm Tryz.func148 rfl rfl rfl rfl rfl (fun hl he=>?_)
 simp -implicitDefEqProofs only [go_sem,Z1,Z2,Z3,Z4] at hl ⊢
 refine atCall [] (c_spec_l4Copy a.A) ?_ ?_ <;> simp -implicitDefEqProofs only [go_sem,Z1,Z2,Z3,Z4]
 try (with_reducible refine ind_andM (by kernel_rfl) ?_)
 refine atCall [] (c_spec_l4Copy a.B) ?_ ?_ <;> simp -implicitDefEqProofs only [go_sem,Z1,Z2,Z3,Z4]
 try (with_reducible refine ind_andM (by kernel_rfl) ?_)
 repeat (first | with_reducible refine ind_andM (by kernel_rfl) ?_ | (with_reducible apply And.intro; case left=>first | omega | assumption | exact ⟨rowsT_all _,by omega⟩ | exact ⟨rowsI_all _,by omega⟩ | exact ⟨rowsLit_all _,by omega⟩ | exact ⟨rowsLin_all _,by omega⟩ | exact ⟨rowsEq_all _,by omega⟩ | rfl | (simp [*]; done) | (simp; omega) | exact ⟨rowsRat_all _,by omega⟩ | exact ⟨rowsAtom_all _,by omega⟩ | exact ⟨rowsB_all _,by omega⟩ | exact ⟨rowsForm_all _,by omega⟩ | exact ⟨rowsII_all _,by omega⟩))
 refine loop_go1 hm (fun (i:Nat)=> i ≤ a.nums.length) (fun (i:Nat)=> ⟨mkS 41 .any [(1,.ptr 0 0),(2,.ptr 1 0),(3,.ptr 3 0),(4,iv i)],[some (.box (pvs (cAtom a))),some (.box [iv 0,sv [],.nilS,sv [],.nilS,.nilS,.nilS,iv 0,bv false]),some (.acc 3 (rowsI a.times)),some (.box [iv a.kind,sv a.A.name,lv (rowsT a.A.kids),sv a.B.name,lv (rowsT a.B.kids),.acc 4,.acc 2,iv a.bound,bv a.strict]),some (.acc 43 (rowsT (a.nums.take i)))]⟩) (fun (i:Nat)=> a.nums.length - i) (0) ?_ (weakS [some 0,some 1,some 3,some 4,none] ?_ ?_ rfl rfl) ?_
 rotate_left
 ·simp -implicitDefEqProofs only [go_sem,Z1,Z2,Z3,Z4]
  all_goals (first | done | (rfl) | (simp [wks_rfl, *]; done) | (simp [wks_rfl]; done) | (simp; omega) | skip)
 ·simp -implicitDefEqProofs only [go_sem,Z1,Z2,Z3,Z4]
  all_goals (first | done | (rfl) | (simp [wks_rfl, *]; done) | (simp [wks_rfl]; done) | (simp; omega) | skip)
 rotate_left
 ·omega
 ·rintro i hi
  rcases Classical.em (i < a.nums.length) with h1 | h1
  ·try simp -implicitDefEqProofs only [go_sem,Z1,Z2,Z3,Z4,h1]
   try (with_reducible refine ind_andM (by kernel_rfl) ?_)
   refine atCall [] (c_spec_l4Copy a.nums[i]) ?_ ?_ <;> simp -implicitDefEqProofs only [go_sem,Z1,Z2,Z3,Z4]
   try (with_reducible refine ind_andM (by kernel_rfl) ?_)
   repeat (first | with_reducible refine ind_andM (by kernel_rfl) ?_ | (with_reducible apply And.intro; case left=>first | omega | assumption | exact ⟨rowsT_all _,by omega⟩ | exact ⟨rowsI_all _,by omega⟩ | exact ⟨rowsLit_all _,by omega⟩ | exact ⟨rowsLin_all _,by omega⟩ | exact ⟨rowsEq_all _,by omega⟩ | rfl | (simp [*]; done) | (simp; omega) | exact ⟨rowsRat_all _,by omega⟩ | exact ⟨rowsAtom_all _,by omega⟩ | exact ⟨rowsB_all _,by omega⟩ | exact ⟨rowsForm_all _,by omega⟩ | exact ⟨rowsII_all _,by omega⟩))
   refine ⟨i + 1,?_,?_,weakS [some 0,some 1,some 2,some 3,some 5] ?_ ?_ rfl rfl⟩
   rotate_left
   ·show _ < _
    omega
   ·simp -implicitDefEqProofs only [go_sem,Z1,Z2,Z3,Z4]
    all_goals (first | done | (exact rowsT_snoc h1) | (simp [wks_rfl, *]; done) | (simp [wks_rfl]; done) | (simp; omega) | skip)
   ·simp -implicitDefEqProofs only [go_sem,Z1,Z2,Z3,Z4]
    all_goals (first | done | (exact rowsT_snoc h1) | (simp [wks_rfl, *]; done) | (simp [wks_rfl]; done) | (simp; omega) | skip)
   exact h1
  ·try simp -implicitDefEqProofs only [go_sem,Z1,Z2,Z3,Z4,h1]
   try (with_reducible refine ind_andM (by kernel_rfl) ?_)
   refine fin1' ?_
   simp -implicitDefEqProofs only [go_sem,Z1,Z2,Z3,Z4]
   rw [List.take_of_length_le (by omega)]
theorem c_spec_l14Form1 (t:Mod.Form) (ih:∀ k ∈ t.kids,ctForm k ≤ 8000000 → C E.P 99 [av (cForm k)] [] (Eq2 (av (cForm k)) [])) (hb9:ctForm t ≤ 8000000):C E.P 99 [av (cForm t)] [] (Eq2 (av (cForm t)) []):=by
 rw [ctForm_eq,ctLit] at hb9
 have hln:=ctForms_len t.kids
 have hLB:=LB_eq
 refine C_goS (nt:=35) (rs:=[.cell 2 50]) hm Tryz.func99 rfl rfl rfl rfl rfl (fun hl he=>?_)
 simp -implicitDefEqProofs only [go_sem,Z1,Z2,Z3,Z4] at hl ⊢
 refine atCall [] (c_spec_l6Copy t.lit.atom (by omega)) ?_ ?_ <;> simp -implicitDefEqProofs only [go_sem,Z1,Z2,Z3,Z4]
 try (with_reducible refine ind_andM (by kernel_rfl) ?_)
 refine loop_go1 hm (fun (i:Nat)=> i ≤ t.kids.length) (fun (i:Nat)=> ⟨mkS 35 .any [(1,.ptr 0 0),(2,.ptr 1 0),(3,.ptr 2 0),(4,iv i)],[some (.box (pvs (cForm t))),some (.box [iv 0,iv 0,sv [],.nilS,sv [],.nilS,.nilS,.nilS,iv 0,bv false,bv false,.nilS]),some (.box [iv t.kind,iv t.lit.atom.kind,sv t.lit.atom.A.name,lv (rowsT t.lit.atom.A.kids),sv t.lit.atom.B.name,lv (rowsT t.lit.atom.B.kids),lv (rowsT t.lit.atom.nums),lv (rowsI t.lit.atom.times),iv t.lit.atom.bound,bv t.lit.atom.strict,bv t.lit.no,.acc 3]),some (.acc 50 (rowsForm (t.kids.take i)))]⟩) (fun (i:Nat)=> t.kids.length - i) (0) ?_ (weakS [some 0,some 1,some 2,none] ?_ ?_ rfl rfl) ?_
 rotate_left
 ·simp -implicitDefEqProofs only [go_sem,Z1,Z2,Z3,Z4]
  all_goals (first | done | (rfl) | (simp [wks_rfl, *]; done) | (simp [wks_rfl]; done) | (simp; omega) | skip)
 ·simp -implicitDefEqProofs only [go_sem,Z1,Z2,Z3,Z4]
  all_goals (first | done | (rfl) | (simp [wks_rfl, *]; done) | (simp [wks_rfl]; done) | (simp; omega) | skip)
 rotate_left
 ·omega
 ·rintro i hi
  rcases Classical.em (i < t.kids.length) with h1 | h1
  ·have hc9:ctForm t.kids[i] ≤ 8000000:=by
    have:=ctL_mem ctForm (List.getElem_mem h1)
    rw [← ctForms_L] at this
    omega
   have hc:=ih t.kids[i] (List.getElem_mem h1) hc9
   try simp -implicitDefEqProofs only [go_sem,Z1,Z2,Z3,Z4,h1]
   try (with_reducible refine ind_andM (by kernel_rfl) ?_)
   refine atCall [] hc ?_ ?_ <;> simp -implicitDefEqProofs only [go_sem,Z1,Z2,Z3,Z4]
   try (with_reducible refine ind_andM (by kernel_rfl) ?_)
   repeat (first | with_reducible refine ind_andM (by kernel_rfl) ?_ | (with_reducible apply And.intro; case left=>first | omega | assumption | exact ⟨rowsT_all _,by omega⟩ | exact ⟨rowsI_all _,by omega⟩ | exact ⟨rowsLit_all _,by omega⟩ | exact ⟨rowsLin_all _,by omega⟩ | exact ⟨rowsEq_all _,by omega⟩ | rfl | (simp [*]; done) | (simp; omega) | exact ⟨rowsRat_all _,by omega⟩ | exact ⟨rowsAtom_all _,by omega⟩ | exact ⟨rowsB_all _,by omega⟩ | exact ⟨rowsForm_all _,by omega⟩ | exact ⟨rowsII_all _,by omega⟩))
   refine ⟨i + 1,?_,?_,weakS [some 0,some 1,some 2,some 4] ?_ ?_ rfl rfl⟩
   rotate_left
   ·show _ < _
    omega
   ·simp -implicitDefEqProofs only [go_sem,Z1,Z2,Z3,Z4]
    all_goals (first | done | (exact rowsForm_snoc h1) | (simp [wks_rfl, *]; done) | (simp [wks_rfl]; done) | (simp; omega) | skip)
   ·simp -implicitDefEqProofs only [go_sem,Z1,Z2,Z3,Z4]
    all_goals (first | done | (exact rowsForm_snoc h1) | (simp [wks_rfl, *]; done) | (simp [wks_rfl]; done) | (simp; omega) | skip)
   exact h1
  ·try simp -implicitDefEqProofs only [go_sem,Z1,Z2,Z3,Z4,h1]
   try (with_reducible refine ind_andM (by kernel_rfl) ?_)
   refine fin1' ?_
   simp -implicitDefEqProofs only [go_sem,Z1,Z2,Z3,Z4]
   rw [List.take_of_length_le (by omega)]
theorem c_spec_l14Form:∀ (t:Mod.Form),ctForm t ≤ 8000000 → C E.P 99 [av (cForm t)] [] (Eq2 (av (cForm t)) []):=
 Form.ind fun _ _ _ ih hb=>c_spec_l14Form1 _ ih hb
theorem c_spec_l14Level (ts:List Mod.Form) (hb9:ctForms ts ≤ 8000000):C E.P 102 [lv (rowsForm ts)] [] (Eq2 (.acc 0) [some (.acc 50 (rowsForm ts))]):=by
 have hln:=ctForms_len ts
 have hLB:=LB_eq
 refine C_goS (nt:=21) (rs:=[.tmp 2]) hm Tryz.func102 rfl rfl rfl rfl rfl (fun hl he=>?_)
 simp -implicitDefEqProofs only [go_sem,Z1,Z2,Z3,Z4] at hl ⊢
 refine loop_go1 hm (fun (i:Nat)=> i ≤ ts.length) (fun (i:Nat)=> ⟨mkS 21 .any [(0,lv (rowsForm ts)),(3,.acc 0),(4,iv i)],[some (.acc 50 (rowsForm (ts.take i)))]⟩) (fun (i:Nat)=> ts.length - i) (0) ?_ (weakS [some 0] ?_ ?_ rfl rfl) ?_
 rotate_left
 ·simp -implicitDefEqProofs only [go_sem,Z1,Z2,Z3,Z4]
  all_goals (first | done | (rfl) | (simp [wks_rfl, *]; done) | (simp [wks_rfl]; done) | (simp; omega) | skip)
 ·simp -implicitDefEqProofs only [go_sem,Z1,Z2,Z3,Z4]
  all_goals (first | done | (rfl) | (simp [wks_rfl, *]; done) | (simp [wks_rfl]; done) | (simp; omega) | skip)
 rotate_left
 ·omega
 ·rintro i hi
  rcases Classical.em (i < ts.length) with h1 | h1
  ·have hc9:ctForm ts[i] ≤ 8000000:=by
    have:=ctL_mem ctForm (List.getElem_mem h1)
    rw [← ctForms_L] at this
    omega
   try simp -implicitDefEqProofs only [go_sem,Z1,Z2,Z3,Z4,h1]
   try (with_reducible refine ind_andM (by kernel_rfl) ?_)
   refine atCall [] (c_spec_l14Form ts[i] hc9) ?_ ?_ <;> simp -implicitDefEqProofs only [go_sem,Z1,Z2,Z3,Z4]
   try (with_reducible refine ind_andM (by kernel_rfl) ?_)
   repeat (first | with_reducible refine ind_andM (by kernel_rfl) ?_ | (with_reducible apply And.intro; case left=>first | omega | assumption | exact ⟨rowsT_all _,by omega⟩ | exact ⟨rowsI_all _,by omega⟩ | exact ⟨rowsLit_all _,by omega⟩ | exact ⟨rowsLin_all _,by omega⟩ | exact ⟨rowsEq_all _,by omega⟩ | rfl | (simp [*]; done) | (simp; omega) | exact ⟨rowsRat_all _,by omega⟩ | exact ⟨rowsAtom_all _,by omega⟩ | exact ⟨rowsB_all _,by omega⟩ | exact ⟨rowsForm_all _,by omega⟩ | exact ⟨rowsII_all _,by omega⟩))
   refine ⟨i + 1,?_,?_,weakS [some 1] ?_ ?_ rfl rfl⟩
   rotate_left
   ·show _ < _
    omega
   ·simp -implicitDefEqProofs only [go_sem,Z1,Z2,Z3,Z4]
    all_goals (first | done | (exact rowsForm_snoc h1) | (simp [wks_rfl, *]; done) | (simp [wks_rfl]; done) | (simp; omega) | skip)
   ·simp -implicitDefEqProofs only [go_sem,Z1,Z2,Z3,Z4]
    all_goals (first | done | (exact rowsForm_snoc h1) | (simp [wks_rfl, *]; done) | (simp [wks_rfl]; done) | (simp; omega) | skip)
   exact h1
  ·try simp -implicitDefEqProofs only [go_sem,Z1,Z2,Z3,Z4,h1]
   try (with_reducible refine ind_andM (by kernel_rfl) ?_)
   refine finM' [some 0] ?_ rfl rfl
   simp -implicitDefEqProofs only [go_sem,Z1,Z2,Z3,Z4]
   rw [List.take_of_length_le (by omega)]
theorem c_spec_l14LevelD (ts:List Mod.Form) (hb9:ctForms ts ≤ 8000000):C E.P 102 [lv (rowsForm ts)] [] (Eq2 (lv (rowsForm ts)) []):=by
 refine (c_spec_l14Level ts hb9).weak [] ?_ rfl rfl
 simp -implicitDefEqProofs only [go_sem,Z1,Z2,Z3,Z4]
theorem c_spec_l14Sig (s:Sig) (hb9:ctL ctSym s.syms ≤ 8000000):C E.P 26 [av (cSig s)] [] (Eq2 (av (cSig s)) []):=by
 have hln:=ctL_len ctSym (fun x=>by unfold ctSym; omega) s.syms
 have hLB:=LB_eq
 refine C_goS (nt:=32) (rs:=[.cell 2 25]) hm Tryz.func26 rfl rfl rfl rfl rfl (fun hl he=>?_)
 simp -implicitDefEqProofs only [go_sem,Z1,Z2,Z3,Z4] at hl ⊢
 refine loop_go1 hm (fun (i:Nat)=> i ≤ s.syms.length) (fun (i:Nat)=> ⟨mkS 32 .any [(1,.ptr 0 0),(2,.ptr 1 0),(3,.ptr 2 0),(4,iv i)],[some (.box (pvs (cSig s))),some (.box [.nilS]),some (.box [.acc 3]),some (.tre 61 (symT (s.syms.take i)))]⟩) (fun (i:Nat)=> s.syms.length - i) (0) ?_ (weakS [some 0,some 1,some 3,some 2] ?_ ?_ rfl rfl) ?_
 rotate_left
 ·simp -implicitDefEqProofs only [go_sem,Z1,Z2,Z3,Z4]
  all_goals (first | done | (rfl) | (simp [wks_rfl, *]; done) | (simp [wks_rfl]; done) | (simp; omega) | skip)
 ·simp -implicitDefEqProofs only [go_sem,Z1,Z2,Z3,Z4]
  all_goals (first | done | (rfl) | (simp [wks_rfl, *]; done) | (simp [wks_rfl]; done) | (simp; omega) | skip)
 rotate_left
 ·omega
 ·rintro i hi
  have hp:(symT (s.syms.take i)).length = i:=by rw [symT_len,List.length_take]; omega
  rcases Classical.em (i < s.syms.length) with h1 | h1
  ·have hc9:=ctL_mem ctSym (List.getElem_mem h1)
   rw [ctSym] at hc9
   have hall:=rowsI_all s.syms[i].args
   try simp -implicitDefEqProofs only [go_sem,Z1,Z2,Z3,Z4,h1]
   try (with_reducible refine ind_andM (by kernel_rfl) ?_)
   repeat (first | with_reducible refine ind_andM (by kernel_rfl) ?_ | (with_reducible apply And.intro; case left=>first | omega | assumption | exact ⟨rowsT_all _,by omega⟩ | exact ⟨rowsI_all _,by omega⟩ | exact ⟨rowsLit_all _,by omega⟩ | exact ⟨rowsLin_all _,by omega⟩ | exact ⟨rowsEq_all _,by omega⟩ | rfl | (simp [*]; done) | (simp; omega) | exact ⟨rowsRat_all _,by omega⟩ | exact ⟨rowsAtom_all _,by omega⟩ | exact ⟨rowsB_all _,by omega⟩ | exact ⟨rowsForm_all _,by omega⟩ | exact ⟨rowsII_all _,by omega⟩))
   refine ⟨i + 1,?_,?_,weak_put 8 i _ rfl (by rw [List.length_append,hp]; simp) (rwT_endn hp) ?_⟩
   rotate_left
   ·show _ < _
    omega
   ·simp -implicitDefEqProofs only [go_sem,Z1,Z2,Z3,Z4]
    refine weakS [some 0,some 1,some 2,some 8] ?_ ?_ rfl rfl
    ·simp -implicitDefEqProofs only [go_sem,Z1,Z2,Z3,Z4]
     all_goals (first | done | (rw [set_endn hp]; exact ⟨symT_snoc h1,(congrArg (fun z=>(frzRows z).isSome) (symT_snoc h1)).trans (symT_ok _)⟩) | (simp [wks_rfl, *]; done) | (simp [wks_rfl]; done) | (simp; omega) | skip)
    ·simp -implicitDefEqProofs only [go_sem,Z1,Z2,Z3,Z4]
     all_goals (first | done | (rw [set_endn hp]; exact ⟨symT_snoc h1,(congrArg (fun z=>(frzRows z).isSome) (symT_snoc h1)).trans (symT_ok _)⟩) | (simp [wks_rfl, *]; done) | (simp [wks_rfl]; done) | (simp; omega) | skip)
   exact h1
  ·try simp -implicitDefEqProofs only [go_sem,Z1,Z2,Z3,Z4,h1]
   try (with_reducible refine ind_andM (by kernel_rfl) ?_)
   refine fin1' ?_
   simp -implicitDefEqProofs only [go_sem,Z1,Z2,Z3,Z4]
   rw [List.take_of_length_le (by omega)]
   exact ⟨_,rfl,rfl⟩
theorem c_spec_l14Copy (s:Stack) (hb9:ctStack s ≤ 8000000) (hl9:s.levels.length ≤ 8000000):C E.P 68 [av (cStack s)] [] (Eq2 (av (cStack s)) []):=by
 rw [ctStack] at hb9
 have hLB:=LB_eq
 refine C_goS (nt:=29) (rs:=[.cell 2 29]) hm Tryz.func68 rfl rfl rfl rfl rfl (fun hl he=>?_)
 simp -implicitDefEqProofs only [go_sem,Z1,Z2,Z3,Z4] at hl ⊢
 refine atCall [] (c_spec_l14Sig s.sig (by omega)) ?_ ?_ <;> simp -implicitDefEqProofs only [go_sem,Z1,Z2,Z3,Z4]
 try (with_reducible refine ind_andM (by kernel_rfl) ?_)
 refine loop_go1 hm (fun (i:Nat)=> i ≤ s.levels.length) (fun (i:Nat)=> ⟨mkS 29 .any [(1,.ptr 0 0),(2,.ptr 1 0),(3,.ptr 2 0),(4,iv i)],[some (.box (pvs (cStack s))),some (.box [.nilS,.nilS]),some (.box [lv (rowsSym s.sig.syms),.acc 3]),some (.acc 36 (rowsFF (s.levels.take i)))]⟩) (fun (i:Nat)=> s.levels.length - i) (0) ?_ (weakS [some 0,some 1,some 3,some 2] ?_ ?_ rfl rfl) ?_
 rotate_left
 ·simp -implicitDefEqProofs only [go_sem,Z1,Z2,Z3,Z4]
  all_goals (first | done | (rfl) | (simp [wks_rfl, *]; done) | (simp [wks_rfl]; done) | (simp; omega) | skip)
 ·simp -implicitDefEqProofs only [go_sem,Z1,Z2,Z3,Z4]
  all_goals (first | done | (rfl) | (simp [wks_rfl, *]; done) | (simp [wks_rfl]; done) | (simp; omega) | skip)
 rotate_left
 ·omega
 ·rintro i hi
  rcases Classical.em (i < s.levels.length) with h1 | h1
  ·have hc9:=ctL_mem ctForms (List.getElem_mem h1)
   try simp -implicitDefEqProofs only [go_sem,Z1,Z2,Z3,Z4,h1]
   try (with_reducible refine ind_andM (by kernel_rfl) ?_)
   refine atCall [] (c_spec_l14LevelD s.levels[i] (by omega)) ?_ ?_ <;> simp -implicitDefEqProofs only [go_sem,Z1,Z2,Z3,Z4]
   try (with_reducible refine ind_andM (by kernel_rfl) ?_)
   repeat (first | with_reducible refine ind_andM (by kernel_rfl) ?_ | (with_reducible apply And.intro; case left=>first | omega | assumption | exact ⟨rowsT_all _,by omega⟩ | exact ⟨rowsI_all _,by omega⟩ | exact ⟨rowsLit_all _,by omega⟩ | exact ⟨rowsLin_all _,by omega⟩ | exact ⟨rowsEq_all _,by omega⟩ | rfl | (simp [*]; done) | (simp; omega) | exact ⟨rowsRat_all _,by omega⟩ | exact ⟨rowsAtom_all _,by omega⟩ | exact ⟨rowsB_all _,by omega⟩ | exact ⟨rowsForm_all _,by omega⟩ | exact ⟨rowsII_all _,by omega⟩))
   refine ⟨i + 1,?_,?_,weakS [some 0,some 1,some 2,some 4] ?_ ?_ rfl rfl⟩
   rotate_left
   ·show _ < _
    omega
   ·simp -implicitDefEqProofs only [go_sem,Z1,Z2,Z3,Z4]
    all_goals (first | done | (exact rowsFF_snoc h1) | (simp [wks_rfl, *]; done) | (simp [wks_rfl]; done) | (simp; omega) | skip)
   ·simp -implicitDefEqProofs only [go_sem,Z1,Z2,Z3,Z4]
    all_goals (first | done | (exact rowsFF_snoc h1) | (simp [wks_rfl, *]; done) | (simp [wks_rfl]; done) | (simp; omega) | skip)
   exact h1
  ·try simp -implicitDefEqProofs only [go_sem,Z1,Z2,Z3,Z4,h1]
   try (with_reducible refine ind_andM (by kernel_rfl) ?_)
   refine fin1' ?_
   simp -implicitDefEqProofs only [go_sem,Z1,Z2,Z3,Z4]
   rw [List.take_of_length_le (by omega)]
theorem c_spec_l14Forms (s:Stack) (hl9:s.levels.flatten.length ≤ 8000000):C E.P 46 [av (cStack s)] [] (Eq2 (lv (rowsForm s.levels.flatten)) []):=by
 have hLB:=LB_eq
 refine C_goS (nt:=21) (rs:=[.tmp 2]) hm Tryz.func46 rfl rfl rfl rfl rfl (fun hl he=>?_)
 simp -implicitDefEqProofs only [go_sem,Z1,Z2,Z3,Z4] at hl ⊢
 refine loop_go1 hm (fun (i:Nat)=> i ≤ s.levels.length) (fun (i:Nat)=> ⟨mkS 21 .any [(1,.ptr 0 0),(3,.acc 1),(4,iv i)],[some (.box (pvs (cStack s))),some (.acc 50 (rowsForm (s.levels.take i).flatten))]⟩) (fun (i:Nat)=> s.levels.length - i) (0) ?_ (weakS [some 0,some 1] ?_ ?_ rfl rfl) ?_
 rotate_left
 ·simp -implicitDefEqProofs only [go_sem,Z1,Z2,Z3,Z4]
  all_goals (first | done | (rfl) | (simp [wks_rfl, *]; done) | (simp [wks_rfl]; done) | (simp; omega) | skip)
 ·simp -implicitDefEqProofs only [go_sem,Z1,Z2,Z3,Z4]
  all_goals (first | done | (rfl) | (simp [wks_rfl, *]; done) | (simp [wks_rfl]; done) | (simp; omega) | skip)
 rotate_left
 ·omega
 ·rintro i hi
  rcases Classical.em (i < s.levels.length) with h1 | h1
  ·have e:rowsForm (s.levels.take i).flatten ++ rowsForm s.levels[i] = rowsForm (s.levels.take (i + 1)).flatten:=by
    have e:s.levels.take (i + 1) = s.levels.take i ++ [s.levels[i]]:=by rw [List.take_add_one,List.getElem?_eq_getElem h1]; rfl
    rw [rowsForm_app,e,List.flatten_append]
    simp
   have e2:s.levels.flatten.length = (s.levels.take (i + 1)).flatten.length + (s.levels.drop (i + 1)).flatten.length:=by
    rw [← List.length_append,← List.flatten_append,List.take_append_drop]
   have e3:(s.levels.take (i + 1)).flatten.length = (s.levels.take i).flatten.length + s.levels[i].length:=by
    have:=congrArg List.length e
    rw [List.length_append,rowsForm_len,rowsForm_len,rowsForm_len] at this
    exact this.symm
   have hall:=rowsForm_all s.levels[i]
   try simp -implicitDefEqProofs only [go_sem,Z1,Z2,Z3,Z4,h1]
   try (with_reducible refine ind_andM (by kernel_rfl) ?_)
   repeat (first | with_reducible refine ind_andM (by kernel_rfl) ?_ | (with_reducible apply And.intro; case left=>first | omega | assumption | exact ⟨rowsT_all _,by omega⟩ | exact ⟨rowsI_all _,by omega⟩ | exact ⟨rowsLit_all _,by omega⟩ | exact ⟨rowsLin_all _,by omega⟩ | exact ⟨rowsEq_all _,by omega⟩ | rfl | (simp [*]; done) | (simp; omega) | exact ⟨rowsRat_all _,by omega⟩ | exact ⟨rowsAtom_all _,by omega⟩ | exact ⟨rowsB_all _,by omega⟩ | exact ⟨rowsForm_all _,by omega⟩ | exact ⟨rowsII_all _,by omega⟩))
   refine ⟨i + 1,?_,?_,weakS [some 0,some 2] ?_ ?_ rfl rfl⟩
   rotate_left
   ·show _ < _
    omega
   ·simp -implicitDefEqProofs only [go_sem,Z1,Z2,Z3,Z4]
    all_goals (first | done | (exact e) | (simp [wks_rfl, *]; done) | (simp [wks_rfl]; done) | (simp; omega) | skip)
   ·simp -implicitDefEqProofs only [go_sem,Z1,Z2,Z3,Z4]
    all_goals (first | done | (exact e) | (simp [wks_rfl, *]; done) | (simp [wks_rfl]; done) | (simp; omega) | skip)
   exact h1
  ·try simp -implicitDefEqProofs only [go_sem,Z1,Z2,Z3,Z4,h1]
   try (with_reducible refine ind_andM (by kernel_rfl) ?_)
   refine fin1' ?_
   simp -implicitDefEqProofs only [go_sem,Z1,Z2,Z3,Z4]
   rw [List.take_of_length_le (by omega)]
theorem c_spec_StackOk (s:Stack) (hl9:s.levels.flatten.length ≤ 8000000):C E.P 16 [av (cStack s)] [] (Eq2 (bv (stackOk s)) []):=by
 have hLB:=LB_eq
 refine C_goS (nt:=20) (rs:=[.tmp 2]) hm Tryz.func16 rfl rfl rfl rfl rfl (fun hl he=>?_)
 simp -implicitDefEqProofs only [go_sem,Z1,Z2,Z3,Z4] at hl ⊢
 rcases Classical.em ((1:Int) ≤ s.levels.length) with h1 | h1
 ·rcases Classical.em ((s.levels.length:Int) ≤ 4) with h2 | h2
  ·have hw:within s.levels.length 1 4 = true:=withinB_iff.2 ⟨h1,h2⟩
   try simp -implicitDefEqProofs only [go_sem,Z1,Z2,Z3,Z4,h1,h2]
   try (with_reducible refine ind_andM (by kernel_rfl) ?_)
   refine atCall [] (c_spec_l14Forms s hl9) ?_ ?_ <;> simp -implicitDefEqProofs only [go_sem,Z1,Z2,Z3,Z4]
   try (with_reducible refine ind_andM (by kernel_rfl) ?_)
   refine atCall [] (c_spec_FormsOk s.sig s.levels.flatten) ?_ ?_ <;> simp -implicitDefEqProofs only [go_sem,Z1,Z2,Z3,Z4]
   try (with_reducible refine ind_andM (by kernel_rfl) ?_)
   refine fin1' ?_
   simp -implicitDefEqProofs only [go_sem,Z1,Z2,Z3,Z4]
   all_goals (first | done | (simp [stackOk,hw]; done) | (simp [stackOk,hw]; omega) | skip)
  ·have hw:within s.levels.length 1 4 = false:=by simp [within]; omega
   try simp -implicitDefEqProofs only [go_sem,Z1,Z2,Z3,Z4,h1,h2]
   try (with_reducible refine ind_andM (by kernel_rfl) ?_)
   refine fin1' ?_
   simp -implicitDefEqProofs only [go_sem,Z1,Z2,Z3,Z4]
   all_goals (first | done | (simp [stackOk,hw]; done) | (simp [stackOk,hw]; omega) | skip)
 ·have hw:within s.levels.length 1 4 = false:=by simp [within]; omega
  try simp -implicitDefEqProofs only [go_sem,Z1,Z2,Z3,Z4,h1]
  try (with_reducible refine ind_andM (by kernel_rfl) ?_)
  refine fin1' ?_
  simp -implicitDefEqProofs only [go_sem,Z1,Z2,Z3,Z4]
  all_goals (first | done | (simp [stackOk,hw]; done) | (simp [stackOk,hw]; omega) | skip)
theorem c_spec_StackPop (s:Stack) (hb9:ctStack s ≤ 8000000):C E.P 63 [av (cStack s)] [] (Eq2 (.tup [av (cStack (stackPop s).1),bv (stackPop s).2]) []):=by
 have hfl:s.levels.flatten.length ≤ 8000000:=by
  have:=flat_len s.levels
  rw [ctStack] at hb9
  omega
 have hLB:=LB_eq
 refine C_goS (nt:=25) (rs:=[.cell 2 29,.tmp 3]) hm Tryz.func63 rfl rfl rfl rfl rfl (fun hl he=>?_)
 simp -implicitDefEqProofs only [go_sem,Z1,Z2,Z3,Z4] at hl ⊢
 refine atCall [] (c_spec_StackOk s hfl) ?_ ?_ <;> simp -implicitDefEqProofs only [go_sem,Z1,Z2,Z3,Z4]
 try (with_reducible refine ind_andM (by kernel_rfl) ?_)
 cases hok:stackOk s
 ·have e:stackPop s = (⟨⟨[]⟩,[]⟩,false):=by simp [stackPop,hok]
  try simp -implicitDefEqProofs only [go_sem,Z1,Z2,Z3,Z4]
  try (with_reducible refine ind_andM (by kernel_rfl) ?_)
  refine fin1' ?_
  simp -implicitDefEqProofs only [go_sem,Z1,Z2,Z3,Z4]
  rw [e]
  exact ⟨⟨rfl,rfl⟩,rfl⟩
 ·have hlen:=stackOk_len hok
  try simp -implicitDefEqProofs only [go_sem,Z1,Z2,Z3,Z4]
  try (with_reducible refine ind_andM (by kernel_rfl) ?_)
  refine atCall [] (c_spec_l14Copy s hb9 (by omega)) ?_ ?_ <;> simp -implicitDefEqProofs only [go_sem,Z1,Z2,Z3,Z4]
  try (with_reducible refine ind_andM (by kernel_rfl) ?_)
  rcases Classical.em ((s.levels.length:Int) < 2) with h2 | h2
  ·have e:stackPop s = (s,false):=by rw [stackPop,if_pos hok,if_pos (by omega)]
   try simp -implicitDefEqProofs only [go_sem,Z1,Z2,Z3,Z4,h2]
   try (with_reducible refine ind_andM (by kernel_rfl) ?_)
   refine fin1' ?_
   simp -implicitDefEqProofs only [go_sem,Z1,Z2,Z3,Z4]
   rw [e]
   exact ⟨⟨rfl,rfl⟩,rfl⟩
  ·have e:stackPop s = (⟨s.sig,s.levels.take (s.levels.length - 1)⟩,true):=by rw [stackPop,if_pos hok,if_neg (by omega)]
   have e2:((s.levels.length:Int) - 1).toNat = s.levels.length - 1:=by omega
   have hall:=rowsFF_all s.levels
   try simp -implicitDefEqProofs only [go_sem,Z1,Z2,Z3,Z4,h2,e2]
   try (with_reducible refine ind_andM (by kernel_rfl) ?_)
   repeat (first | with_reducible refine ind_andM (by kernel_rfl) ?_ | (with_reducible apply And.intro; case left=>first | omega | assumption | exact ⟨rowsT_all _,by omega⟩ | exact ⟨rowsI_all _,by omega⟩ | exact ⟨rowsLit_all _,by omega⟩ | exact ⟨rowsLin_all _,by omega⟩ | exact ⟨rowsEq_all _,by omega⟩ | rfl | (simp [*]; done) | (simp; omega) | exact ⟨rowsRat_all _,by omega⟩ | exact ⟨rowsAtom_all _,by omega⟩ | exact ⟨rowsB_all _,by omega⟩ | exact ⟨rowsForm_all _,by omega⟩ | exact ⟨rowsII_all _,by omega⟩))
   refine ⟨⟨by omega,by omega,hall⟩,?_⟩
   refine fin1' ?_
   simp -implicitDefEqProofs only [go_sem,Z1,Z2,Z3,Z4]
   rw [e]
   exact ⟨⟨rfl,by rw [List.drop_zero,Nat.sub_zero,rowsFF_take]⟩,rfl⟩
end Go.Proofs.YtdikjlldidjioaaGreat
