/-
  Stacks: the reference's walks. A step towards the exact laws. Stacks as arguments: measured, compared. A step towards the exact laws.
-/
import Derived.Test.YtgeogofjlhjcmaaGreatKQj
import Derived.Test.YtgeogofjlhjcmaaGreatKQs
import Derived.Test.YtgeogofjlhjcmaaGreatKQEa
import Derived.Test.YtgeogofjlhjcmaaGreatKQDa
import Derived.Test.YtgeogofjlhjcmaaGreatKQg
set_option linter.unusedVariables false
set_option linter.unusedSimpArgs false
namespace Go.Proofs.YtgeogofjlhjcmaaGreat
open Go.Eng Go.Mod
open Int renaming reduceEq → Z1,reduceLT → Z2,reduceLE → Z3,reduceToNat → Z4
set_option maxRecDepth 100000
set_option maxHeartbeats 400000
theorem c_spec_l6Copy (a:Atom) (hb9:a.times.length ≤ 8000000):C E.P 85 [av (cAtom a)] [] (Eq2 (av (cAtom a)) []):=by
 have ht:=rowsI_all a.times
 have hLB:=LB_eq
 refine C_goS (nt:=41) (rs:=[.cell 2 58]) hm Tryz.func85 rfl rfl rfl rfl rfl (fun hl he=>?_)
 simp -implicitDefEqProofs only [go_sem,Z1,Z2,Z3,Z4] at hl ⊢
 refine atCall [] (c_spec_l4Copy a.A) ?_ ?_ <;> simp -implicitDefEqProofs only [go_sem,Z1,Z2,Z3,Z4]
 try (with_reducible refine ind_andM (by kernel_rfl) ?_)
 refine atCall [] (c_spec_l4Copy a.B) ?_ ?_ <;> simp -implicitDefEqProofs only [go_sem,Z1,Z2,Z3,Z4]
 try (with_reducible refine ind_andM (by kernel_rfl) ?_)
 repeat (first | with_reducible refine ind_andM (by kernel_rfl) ?_ | (with_reducible apply And.intro; case left=>first | omega | assumption | exact ⟨rowsT_all _,by omega⟩ | exact ⟨rowsI_all _,by omega⟩ | exact ⟨rowsLit_all _,by omega⟩ | exact ⟨rowsLin_all _,by omega⟩ | exact ⟨rowsEq_all _,by omega⟩ | rfl | (simp [*]; done) | (simp; omega) | exact ⟨rowsRat_all _,by omega⟩ | exact ⟨rowsAtom_all _,by omega⟩ | exact ⟨rowsB_all _,by omega⟩ | exact ⟨rowsForm_all _,by omega⟩ | exact ⟨rowsII_all _,by omega⟩))
 refine loop_go1 hm (fun (i:Nat)=> i ≤ a.nums.length) (fun (i:Nat)=> ⟨mkS 41 .any [(1,.ptr 0 0),(2,.ptr 1 0),(3,.ptr 3 0),(4,iv i)],[some (.box (pvs (cAtom a))),some (.box [iv 0,sv [],.nilS,sv [],.nilS,.nilS,.nilS,iv 0,bv false]),some (.acc 3 (rowsI a.times)),some (.box [iv a.kind,sv a.A.name,lv (rowsT a.A.kids),sv a.B.name,lv (rowsT a.B.kids),.acc 4,.acc 2,iv a.bound,bv a.strict]),some (.acc 56 (rowsT (a.nums.take i)))]⟩) (fun (i:Nat)=> a.nums.length - i) (0) ?_ (weakS [some 0,some 1,some 3,some 4,none] ?_ ?_ rfl rfl) ?_
 rotate_left
 ·simp -implicitDefEqProofs only [go_sem,Z1,Z2,Z3,Z4]
  all_goals (first | done | (rfl) | (simp [wks_rfl, *]; done) | (simp [wks_rfl]; done) | (simp; omega) | skip)
 ·simp -implicitDefEqProofs only [go_sem,Z1,Z2,Z3,Z4]
  all_goals (first | done | (rfl) | (simp [wks_rfl, *]; done) | (simp [wks_rfl]; done) | (simp; omega) | skip)
 rotate_left
 ·omega
 ·rintro i hi
  rcases Classical.em (i < a.nums.length) with h1 | h1
  ·try simp -implicitDefEqProofs only [go_sem,Z1,Z2,Z3,Z4,h1]
   try (with_reducible refine ind_andM (by kernel_rfl) ?_)
   refine atCall [] (c_spec_l4Copy a.nums[i]) ?_ ?_ <;> simp -implicitDefEqProofs only [go_sem,Z1,Z2,Z3,Z4]
   try (with_reducible refine ind_andM (by kernel_rfl) ?_)
   repeat (first | with_reducible refine ind_andM (by kernel_rfl) ?_ | (with_reducible apply And.intro; case left=>first | omega | assumption | exact ⟨rowsT_all _,by omega⟩ | exact ⟨rowsI_all _,by omega⟩ | exact ⟨rowsLit_all _,by omega⟩ | exact ⟨rowsLin_all _,by omega⟩ | exact ⟨rowsEq_all _,by omega⟩ | rfl | (simp [*]; done) | (simp; omega) | exact ⟨rowsRat_all _,by omega⟩ | exact ⟨rowsAtom_all _,by omega⟩ | exact ⟨rowsB_all _,by omega⟩ | exact ⟨rowsForm_all _,by omega⟩ | exact ⟨rowsII_all _,by omega⟩))
   refine ⟨i + 1,?_,?_,weakS [some 0,some 1,some 2,some 3,some 5] ?_ ?_ rfl rfl⟩
   rotate_left
   ·show _ < _
    omega
   ·simp -implicitDefEqProofs only [go_sem,Z1,Z2,Z3,Z4]
    all_goals (first | done | (exact rowsT_snoc h1) | (simp [wks_rfl, *]; done) | (simp [wks_rfl]; done) | (simp; omega) | skip)
   ·simp -implicitDefEqProofs only [go_sem,Z1,Z2,Z3,Z4]
    all_goals (first | done | (exact rowsT_snoc h1) | (simp [wks_rfl, *]; done) | (simp [wks_rfl]; done) | (simp; omega) | skip)
   exact h1
  ·try simp -implicitDefEqProofs only [go_sem,Z1,Z2,Z3,Z4,h1]
   try (with_reducible refine ind_andM (by kernel_rfl) ?_)
   refine fin1' ?_
   simp -implicitDefEqProofs only [go_sem,Z1,Z2,Z3,Z4]
   rw [List.take_of_length_le (by omega)]
theorem c_spec_l14Form1 (t:Mod.Form) (ih:∀ k ∈ t.kids,ctForm k ≤ 8000000 → C E.P 47 [av (cForm k)] [] (Eq2 (av (cForm k)) [])) (hb9:ctForm t ≤ 8000000):C E.P 47 [av (cForm t)] [] (Eq2 (av (cForm t)) []):=by
 rw [ctForm_eq,ctLit] at hb9
 have hln:=ctForms_len t.kids
 have hLB:=LB_eq
 refine C_goS (nt:=35) (rs:=[.cell 2 63]) hm Tryz.func47 rfl rfl rfl rfl rfl (fun hl he=>?_)
 simp -implicitDefEqProofs only [go_sem,Z1,Z2,Z3,Z4] at hl ⊢
 refine atCall [] (c_spec_l6Copy t.lit.atom (by omega)) ?_ ?_ <;> simp -implicitDefEqProofs only [go_sem,Z1,Z2,Z3,Z4]
 try (with_reducible refine ind_andM (by kernel_rfl) ?_)
 refine loop_go1 hm (fun (i:Nat)=> i ≤ t.kids.length) (fun (i:Nat)=> ⟨mkS 35 .any [(1,.ptr 0 0),(2,.ptr 1 0),(3,.ptr 2 0),(4,iv i)],[some (.box (pvs (cForm t))),some (.box [iv 0,iv 0,sv [],.nilS,sv [],.nilS,.nilS,.nilS,iv 0,bv false,bv false,.nilS]),some (.box [iv t.kind,iv t.lit.atom.kind,sv t.lit.atom.A.name,lv (rowsT t.lit.atom.A.kids),sv t.lit.atom.B.name,lv (rowsT t.lit.atom.B.kids),lv (rowsT t.lit.atom.nums),lv (rowsI t.lit.atom.times),iv t.lit.atom.bound,bv t.lit.atom.strict,bv t.lit.no,.acc 3]),some (.acc 63 (rowsForm (t.kids.take i)))]⟩) (fun (i:Nat)=> t.kids.length - i) (0) ?_ (weakS [some 0,some 1,some 2,none] ?_ ?_ rfl rfl) ?_
 rotate_left
 ·simp -implicitDefEqProofs only [go_sem,Z1,Z2,Z3,Z4]
  all_goals (first | done | (rfl) | (simp [wks_rfl, *]; done) | (simp [wks_rfl]; done) | (simp; omega) | skip)
 ·simp -implicitDefEqProofs only [go_sem,Z1,Z2,Z3,Z4]
  all_goals (first | done | (rfl) | (simp [wks_rfl, *]; done) | (simp [wks_rfl]; done) | (simp; omega) | skip)
 rotate_left
 ·omega
 ·rintro i hi
  rcases Classical.em (i < t.kids.length) with h1 | h1
  ·have hc9:ctForm t.kids[i] ≤ 8000000:=by
    have:=ctL_mem ctForm (List.getElem_mem h1)
    rw [← ctForms_L] at this
    omega
   have hc:=ih t.kids[i] (List.getElem_mem h1) hc9
   try simp -implicitDefEqProofs only [go_sem,Z1,Z2,Z3,Z4,h1]
   try (with_reducible refine ind_andM (by kernel_rfl) ?_)
   refine atCall [] hc ?_ ?_ <;> simp -implicitDefEqProofs only [go_sem,Z1,Z2,Z3,Z4]
   try (with_reducible refine ind_andM (by kernel_rfl) ?_)
   repeat (first | with_reducible refine ind_andM (by kernel_rfl) ?_ | (with_reducible apply And.intro; case left=>first | omega | assumption | exact ⟨rowsT_all _,by omega⟩ | exact ⟨rowsI_all _,by omega⟩ | exact ⟨rowsLit_all _,by omega⟩ | exact ⟨rowsLin_all _,by omega⟩ | exact ⟨rowsEq_all _,by omega⟩ | rfl | (simp [*]; done) | (simp; omega) | exact ⟨rowsRat_all _,by omega⟩ | exact ⟨rowsAtom_all _,by omega⟩ | exact ⟨rowsB_all _,by omega⟩ | exact ⟨rowsForm_all _,by omega⟩ | exact ⟨rowsII_all _,by omega⟩))
   refine ⟨i + 1,?_,?_,weakS [some 0,some 1,some 2,some 4] ?_ ?_ rfl rfl⟩
   rotate_left
   ·show _ < _
    omega
   ·simp -implicitDefEqProofs only [go_sem,Z1,Z2,Z3,Z4]
    all_goals (first | done | (exact rowsForm_snoc h1) | (simp [wks_rfl, *]; done) | (simp [wks_rfl]; done) | (simp; omega) | skip)
   ·simp -implicitDefEqProofs only [go_sem,Z1,Z2,Z3,Z4]
    all_goals (first | done | (exact rowsForm_snoc h1) | (simp [wks_rfl, *]; done) | (simp [wks_rfl]; done) | (simp; omega) | skip)
   exact h1
  ·try simp -implicitDefEqProofs only [go_sem,Z1,Z2,Z3,Z4,h1]
   try (with_reducible refine ind_andM (by kernel_rfl) ?_)
   refine fin1' ?_
   simp -implicitDefEqProofs only [go_sem,Z1,Z2,Z3,Z4]
   rw [List.take_of_length_le (by omega)]
theorem c_spec_l14Form:∀ (t:Mod.Form),ctForm t ≤ 8000000 → C E.P 47 [av (cForm t)] [] (Eq2 (av (cForm t)) []):=
 Form.ind fun _ _ _ ih hb=>c_spec_l14Form1 _ ih hb
theorem c_spec_l14Level (ts:List Mod.Form) (hb9:ctForms ts ≤ 8000000):C E.P 73 [lv (rowsForm ts)] [] (Eq2 (.acc 0) [some (.acc 63 (rowsForm ts))]):=by
 have hln:=ctForms_len ts
 have hLB:=LB_eq
 refine C_goS (nt:=21) (rs:=[.tmp 2]) hm Tryz.func73 rfl rfl rfl rfl rfl (fun hl he=>?_)
 simp -implicitDefEqProofs only [go_sem,Z1,Z2,Z3,Z4] at hl ⊢
 refine loop_go1 hm (fun (i:Nat)=> i ≤ ts.length) (fun (i:Nat)=> ⟨mkS 21 .any [(0,lv (rowsForm ts)),(3,.acc 0),(4,iv i)],[some (.acc 63 (rowsForm (ts.take i)))]⟩) (fun (i:Nat)=> ts.length - i) (0) ?_ (weakS [some 0] ?_ ?_ rfl rfl) ?_
 rotate_left
 ·simp -implicitDefEqProofs only [go_sem,Z1,Z2,Z3,Z4]
  all_goals (first | done | (rfl) | (simp [wks_rfl, *]; done) | (simp [wks_rfl]; done) | (simp; omega) | skip)
 ·simp -implicitDefEqProofs only [go_sem,Z1,Z2,Z3,Z4]
  all_goals (first | done | (rfl) | (simp [wks_rfl, *]; done) | (simp [wks_rfl]; done) | (simp; omega) | skip)
 rotate_left
 ·omega
 ·rintro i hi
  rcases Classical.em (i < ts.length) with h1 | h1
  ·have hc9:ctForm ts[i] ≤ 8000000:=by
    have:=ctL_mem ctForm (List.getElem_mem h1)
    rw [← ctForms_L] at this
    omega
   try simp -implicitDefEqProofs only [go_sem,Z1,Z2,Z3,Z4,h1]
   try (with_reducible refine ind_andM (by kernel_rfl) ?_)
   refine atCall [] (c_spec_l14Form ts[i] hc9) ?_ ?_ <;> simp -implicitDefEqProofs only [go_sem,Z1,Z2,Z3,Z4]
   try (with_reducible refine ind_andM (by kernel_rfl) ?_)
   repeat (first | with_reducible refine ind_andM (by kernel_rfl) ?_ | (with_reducible apply And.intro; case left=>first | omega | assumption | exact ⟨rowsT_all _,by omega⟩ | exact ⟨rowsI_all _,by omega⟩ | exact ⟨rowsLit_all _,by omega⟩ | exact ⟨rowsLin_all _,by omega⟩ | exact ⟨rowsEq_all _,by omega⟩ | rfl | (simp [*]; done) | (simp; omega) | exact ⟨rowsRat_all _,by omega⟩ | exact ⟨rowsAtom_all _,by omega⟩ | exact ⟨rowsB_all _,by omega⟩ | exact ⟨rowsForm_all _,by omega⟩ | exact ⟨rowsII_all _,by omega⟩))
   refine ⟨i + 1,?_,?_,weakS [some 1] ?_ ?_ rfl rfl⟩
   rotate_left
   ·show _ < _
    omega
   ·simp -implicitDefEqProofs only [go_sem,Z1,Z2,Z3,Z4]
    all_goals (first | done | (exact rowsForm_snoc h1) | (simp [wks_rfl, *]; done) | (simp [wks_rfl]; done) | (simp; omega) | skip)
   ·simp -implicitDefEqProofs only [go_sem,Z1,Z2,Z3,Z4]
    all_goals (first | done | (exact rowsForm_snoc h1) | (simp [wks_rfl, *]; done) | (simp [wks_rfl]; done) | (simp; omega) | skip)
   exact h1
  ·try simp -implicitDefEqProofs only [go_sem,Z1,Z2,Z3,Z4,h1]
   try (with_reducible refine ind_andM (by kernel_rfl) ?_)
   refine finM' [some 0] ?_ rfl rfl
   simp -implicitDefEqProofs only [go_sem,Z1,Z2,Z3,Z4]
   rw [List.take_of_length_le (by omega)]
theorem c_spec_l14LevelD (ts:List Mod.Form) (hb9:ctForms ts ≤ 8000000):C E.P 73 [lv (rowsForm ts)] [] (Eq2 (lv (rowsForm ts)) []):=by
 refine (c_spec_l14Level ts hb9).weak [] ?_ rfl rfl
 simp -implicitDefEqProofs only [go_sem,Z1,Z2,Z3,Z4]
theorem c_spec_l14Sig (s:Sig) (hb9:ctL ctSym s.syms ≤ 8000000):C E.P 72 [av (cSig s)] [] (Eq2 (av (cSig s)) []):=by
 have hln:=ctL_len ctSym (fun x=>by unfold ctSym; omega) s.syms
 have hLB:=LB_eq
 refine C_goS (nt:=32) (rs:=[.cell 2 31]) hm Tryz.func72 rfl rfl rfl rfl rfl (fun hl he=>?_)
 simp -implicitDefEqProofs only [go_sem,Z1,Z2,Z3,Z4] at hl ⊢
 refine loop_go1 hm (fun (i:Nat)=> i ≤ s.syms.length) (fun (i:Nat)=> ⟨mkS 32 .any [(1,.ptr 0 0),(2,.ptr 1 0),(3,.ptr 2 0),(4,iv i)],[some (.box (pvs (cSig s))),some (.box [.nilS]),some (.box [.acc 3]),some (.tre 183 (symT (s.syms.take i)))]⟩) (fun (i:Nat)=> s.syms.length - i) (0) ?_ (weakS [some 0,some 1,some 3,some 2] ?_ ?_ rfl rfl) ?_
 rotate_left
 ·simp -implicitDefEqProofs only [go_sem,Z1,Z2,Z3,Z4]
  all_goals (first | done | (rfl) | (simp [wks_rfl, *]; done) | (simp [wks_rfl]; done) | (simp; omega) | skip)
 ·simp -implicitDefEqProofs only [go_sem,Z1,Z2,Z3,Z4]
  all_goals (first | done | (rfl) | (simp [wks_rfl, *]; done) | (simp [wks_rfl]; done) | (simp; omega) | skip)
 rotate_left
 ·omega
 ·rintro i hi
  have hp:(symT (s.syms.take i)).length = i:=by rw [symT_len,List.length_take]; omega
  rcases Classical.em (i < s.syms.length) with h1 | h1
  ·have hc9:=ctL_mem ctSym (List.getElem_mem h1)
   rw [ctSym] at hc9
   have hall:=rowsI_all s.syms[i].args
   try simp -implicitDefEqProofs only [go_sem,Z1,Z2,Z3,Z4,h1]
   try (with_reducible refine ind_andM (by kernel_rfl) ?_)
   repeat (first | with_reducible refine ind_andM (by kernel_rfl) ?_ | (with_reducible apply And.intro; case left=>first | omega | assumption | exact ⟨rowsT_all _,by omega⟩ | exact ⟨rowsI_all _,by omega⟩ | exact ⟨rowsLit_all _,by omega⟩ | exact ⟨rowsLin_all _,by omega⟩ | exact ⟨rowsEq_all _,by omega⟩ | rfl | (simp [*]; done) | (simp; omega) | exact ⟨rowsRat_all _,by omega⟩ | exact ⟨rowsAtom_all _,by omega⟩ | exact ⟨rowsB_all _,by omega⟩ | exact ⟨rowsForm_all _,by omega⟩ | exact ⟨rowsII_all _,by omega⟩))
   refine ⟨i + 1,?_,?_,weak_put 8 i _ rfl (by rw [List.length_append,hp]; simp) (rwT_endn hp) ?_⟩
   rotate_left
   ·show _ < _
    omega
   ·simp -implicitDefEqProofs only [go_sem,Z1,Z2,Z3,Z4]
    refine weakS [some 0,some 1,some 2,some 8] ?_ ?_ rfl rfl
    ·simp -implicitDefEqProofs only [go_sem,Z1,Z2,Z3,Z4]
     all_goals (first | done | (rw [set_endn hp]; exact ⟨symT_snoc h1,(congrArg (fun z=>(frzRows z).isSome) (symT_snoc h1)).trans (symT_ok _)⟩) | (simp [wks_rfl, *]; done) | (simp [wks_rfl]; done) | (simp; omega) | skip)
    ·simp -implicitDefEqProofs only [go_sem,Z1,Z2,Z3,Z4]
     all_goals (first | done | (rw [set_endn hp]; exact ⟨symT_snoc h1,(congrArg (fun z=>(frzRows z).isSome) (symT_snoc h1)).trans (symT_ok _)⟩) | (simp [wks_rfl, *]; done) | (simp [wks_rfl]; done) | (simp; omega) | skip)
   exact h1
  ·try simp -implicitDefEqProofs only [go_sem,Z1,Z2,Z3,Z4,h1]
   try (with_reducible refine ind_andM (by kernel_rfl) ?_)
   refine fin1' ?_
   simp -implicitDefEqProofs only [go_sem,Z1,Z2,Z3,Z4]
   rw [List.take_of_length_le (by omega)]
   exact ⟨_,rfl,rfl⟩
theorem c_spec_l14Copy (s:Stack) (hb9:ctStack s ≤ 8000000) (hl9:s.levels.length ≤ 8000000):C E.P 35 [av (cStack s)] [] (Eq2 (av (cStack s)) []):=by
 rw [ctStack] at hb9
 have hLB:=LB_eq
 refine C_goS (nt:=29) (rs:=[.cell 2 34]) hm Tryz.func35 rfl rfl rfl rfl rfl (fun hl he=>?_)
 simp -implicitDefEqProofs only [go_sem,Z1,Z2,Z3,Z4] at hl ⊢
 refine atCall [] (c_spec_l14Sig s.sig (by omega)) ?_ ?_ <;> simp -implicitDefEqProofs only [go_sem,Z1,Z2,Z3,Z4]
 try (with_reducible refine ind_andM (by kernel_rfl) ?_)
 refine loop_go1 hm (fun (i:Nat)=> i ≤ s.levels.length) (fun (i:Nat)=> ⟨mkS 29 .any [(1,.ptr 0 0),(2,.ptr 1 0),(3,.ptr 2 0),(4,iv i)],[some (.box (pvs (cStack s))),some (.box [.nilS,.nilS]),some (.box [lv (rowsSym s.sig.syms),.acc 3]),some (.acc 61 (rowsFF (s.levels.take i)))]⟩) (fun (i:Nat)=> s.levels.length - i) (0) ?_ (weakS [some 0,some 1,some 3,some 2] ?_ ?_ rfl rfl) ?_
 rotate_left
 ·simp -implicitDefEqProofs only [go_sem,Z1,Z2,Z3,Z4]
  all_goals (first | done | (rfl) | (simp [wks_rfl, *]; done) | (simp [wks_rfl]; done) | (simp; omega) | skip)
 ·simp -implicitDefEqProofs only [go_sem,Z1,Z2,Z3,Z4]
  all_goals (first | done | (rfl) | (simp [wks_rfl, *]; done) | (simp [wks_rfl]; done) | (simp; omega) | skip)
 rotate_left
 ·omega
 ·rintro i hi
  rcases Classical.em (i < s.levels.length) with h1 | h1
  ·have hc9:=ctL_mem ctForms (List.getElem_mem h1)
   try simp -implicitDefEqProofs only [go_sem,Z1,Z2,Z3,Z4,h1]
   try (with_reducible refine ind_andM (by kernel_rfl) ?_)
   refine atCall [] (c_spec_l14LevelD s.levels[i] (by omega)) ?_ ?_ <;> simp -implicitDefEqProofs only [go_sem,Z1,Z2,Z3,Z4]
   try (with_reducible refine ind_andM (by kernel_rfl) ?_)
   repeat (first | with_reducible refine ind_andM (by kernel_rfl) ?_ | (with_reducible apply And.intro; case left=>first | omega | assumption | exact ⟨rowsT_all _,by omega⟩ | exact ⟨rowsI_all _,by omega⟩ | exact ⟨rowsLit_all _,by omega⟩ | exact ⟨rowsLin_all _,by omega⟩ | exact ⟨rowsEq_all _,by omega⟩ | rfl | (simp [*]; done) | (simp; omega) | exact ⟨rowsRat_all _,by omega⟩ | exact ⟨rowsAtom_all _,by omega⟩ | exact ⟨rowsB_all _,by omega⟩ | exact ⟨rowsForm_all _,by omega⟩ | exact ⟨rowsII_all _,by omega⟩))
   refine ⟨i + 1,?_,?_,weakS [some 0,some 1,some 2,some 4] ?_ ?_ rfl rfl⟩
   rotate_left
   ·show _ < _
    omega
   ·simp -implicitDefEqProofs only [go_sem,Z1,Z2,Z3,Z4]
    all_goals (first | done | (exact rowsFF_snoc h1) | (simp [wks_rfl, *]; done) | (simp [wks_rfl]; done) | (simp; omega) | skip)
   ·simp -implicitDefEqProofs only [go_sem,Z1,Z2,Z3,Z4]
    all_goals (first | done | (exact rowsFF_snoc h1) | (simp [wks_rfl, *]; done) | (simp [wks_rfl]; done) | (simp; omega) | skip)
   exact h1
  ·try simp -implicitDefEqProofs only [go_sem,Z1,Z2,Z3,Z4,h1]
   try (with_reducible refine ind_andM (by kernel_rfl) ?_)
   refine fin1' ?_
   simp -implicitDefEqProofs only [go_sem,Z1,Z2,Z3,Z4]
   rw [List.take_of_length_le (by omega)]
theorem c_spec_l14Forms (s:Stack) (hl9:s.levels.flatten.length ≤ 8000000):C E.P 71 [av (cStack s)] [] (Eq2 (lv (rowsForm s.levels.flatten)) []):=by
 have hLB:=LB_eq
 refine C_goS (nt:=21) (rs:=[.tmp 2]) hm Tryz.func71 rfl rfl rfl rfl rfl (fun hl he=>?_)
 simp -implicitDefEqProofs only [go_sem,Z1,Z2,Z3,Z4] at hl ⊢
 refine loop_go1 hm (fun (i:Nat)=> i ≤ s.levels.length) (fun (i:Nat)=> ⟨mkS 21 .any [(1,.ptr 0 0),(3,.acc 1),(4,iv i)],[some (.box (pvs (cStack s))),some (.acc 63 (rowsForm (s.levels.take i).flatten))]⟩) (fun (i:Nat)=> s.levels.length - i) (0) ?_ (weakS [some 0,some 1] ?_ ?_ rfl rfl) ?_
 rotate_left
 ·simp -implicitDefEqProofs only [go_sem,Z1,Z2,Z3,Z4]
  all_goals (first | done | (rfl) | (simp [wks_rfl, *]; done) | (simp [wks_rfl]; done) | (simp; omega) | skip)
 ·simp -implicitDefEqProofs only [go_sem,Z1,Z2,Z3,Z4]
  all_goals (first | done | (rfl) | (simp [wks_rfl, *]; done) | (simp [wks_rfl]; done) | (simp; omega) | skip)
 rotate_left
 ·omega
 ·rintro i hi
  rcases Classical.em (i < s.levels.length) with h1 | h1
  ·have e:rowsForm (s.levels.take i).flatten ++ rowsForm s.levels[i] = rowsForm (s.levels.take (i + 1)).flatten:=by
    have e:s.levels.take (i + 1) = s.levels.take i ++ [s.levels[i]]:=by rw [List.take_add_one,List.getElem?_eq_getElem h1]; rfl
    rw [rowsForm_app,e,List.flatten_append]
    simp
   have e2:s.levels.flatten.length = (s.levels.take (i + 1)).flatten.length + (s.levels.drop (i + 1)).flatten.length:=by
    rw [← List.length_append,← List.flatten_append,List.take_append_drop]
   have e3:(s.levels.take (i + 1)).flatten.length = (s.levels.take i).flatten.length + s.levels[i].length:=by
    have:=congrArg List.length e
    rw [List.length_append,rowsForm_len,rowsForm_len,rowsForm_len] at this
    exact this.symm
   have hall:=rowsForm_all s.levels[i]
   try simp -implicitDefEqProofs only [go_sem,Z1,Z2,Z3,Z4,h1]
   try (with_reducible refine ind_andM (by kernel_rfl) ?_)
   repeat (first | with_reducible refine ind_andM (by kernel_rfl) ?_ | (with_reducible apply And.intro; case left=>first | omega | assumption | exact ⟨rowsT_all _,by omega⟩ | exact ⟨rowsI_all _,by omega⟩ | exact ⟨rowsLit_all _,by omega⟩ | exact ⟨rowsLin_all _,by omega⟩ | exact ⟨rowsEq_all _,by omega⟩ | rfl | (simp [*]; done) | (simp; omega) | exact ⟨rowsRat_all _,by omega⟩ | exact ⟨rowsAtom_all _,by omega⟩ | exact ⟨rowsB_all _,by omega⟩ | exact ⟨rowsForm_all _,by omega⟩ | exact ⟨rowsII_all _,by omega⟩))
   refine ⟨i + 1,?_,?_,weakS [some 0,some 2] ?_ ?_ rfl rfl⟩
   rotate_left
   ·show _ < _
    omega
   ·simp -implicitDefEqProofs only [go_sem,Z1,Z2,Z3,Z4]
    all_goals (first | done | (exact e) | (simp [wks_rfl, *]; done) | (simp [wks_rfl]; done) | (simp; omega) | skip)
   ·simp -implicitDefEqProofs only [go_sem,Z1,Z2,Z3,Z4]
    all_goals (first | done | (exact e) | (simp [wks_rfl, *]; done) | (simp [wks_rfl]; done) | (simp; omega) | skip)
   exact h1
  ·try simp -implicitDefEqProofs only [go_sem,Z1,Z2,Z3,Z4,h1]
   try (with_reducible refine ind_andM (by kernel_rfl) ?_)
   refine fin1' ?_
   simp -implicitDefEqProofs only [go_sem,Z1,Z2,Z3,Z4]
   rw [List.take_of_length_le (by omega)]
theorem c_spec_StackOk (s:Stack) (hl9:s.levels.flatten.length ≤ 8000000):C E.P 34 [av (cStack s)] [] (Eq2 (bv (stackOk s)) []):=by
 have hLB:=LB_eq
 refine C_goS (nt:=20) (rs:=[.tmp 2]) hm Tryz.func34 rfl rfl rfl rfl rfl (fun hl he=>?_)
 simp -implicitDefEqProofs only [go_sem,Z1,Z2,Z3,Z4] at hl ⊢
 rcases Classical.em ((1:Int) ≤ s.levels.length) with h1 | h1
 ·rcases Classical.em ((s.levels.length:Int) ≤ 4) with h2 | h2
  ·have hw:within s.levels.length 1 4 = true:=withinB_iff.2 ⟨h1,h2⟩
   try simp -implicitDefEqProofs only [go_sem,Z1,Z2,Z3,Z4,h1,h2]
   try (with_reducible refine ind_andM (by kernel_rfl) ?_)
   refine atCall [] (c_spec_l14Forms s hl9) ?_ ?_ <;> simp -implicitDefEqProofs only [go_sem,Z1,Z2,Z3,Z4]
   try (with_reducible refine ind_andM (by kernel_rfl) ?_)
   refine atCall [] (c_spec_FormsOk s.sig s.levels.flatten) ?_ ?_ <;> simp -implicitDefEqProofs only [go_sem,Z1,Z2,Z3,Z4]
   try (with_reducible refine ind_andM (by kernel_rfl) ?_)
   refine fin1' ?_
   simp -implicitDefEqProofs only [go_sem,Z1,Z2,Z3,Z4]
   all_goals (first | done | (simp [stackOk,hw]; done) | (simp [stackOk,hw]; omega) | skip)
  ·have hw:within s.levels.length 1 4 = false:=by simp [within]; omega
   try simp -implicitDefEqProofs only [go_sem,Z1,Z2,Z3,Z4,h1,h2]
   try (with_reducible refine ind_andM (by kernel_rfl) ?_)
   refine fin1' ?_
   simp -implicitDefEqProofs only [go_sem,Z1,Z2,Z3,Z4]
   all_goals (first | done | (simp [stackOk,hw]; done) | (simp [stackOk,hw]; omega) | skip)
 ·have hw:within s.levels.length 1 4 = false:=by simp [within]; omega
  try simp -implicitDefEqProofs only [go_sem,Z1,Z2,Z3,Z4,h1]
  try (with_reducible refine ind_andM (by kernel_rfl) ?_)
  refine fin1' ?_
  simp -implicitDefEqProofs only [go_sem,Z1,Z2,Z3,Z4]
  all_goals (first | done | (simp [stackOk,hw]; done) | (simp [stackOk,hw]; omega) | skip)
end Go.Proofs.YtgeogofjlhjcmaaGreat
namespace Go.Proofs.YtgeogofjlhjcmaaGreat
open Go.Eng Go.Mod
open Int renaming reduceEq → Z1,reduceLT → Z2,reduceLE → Z3,reduceToNat → Z4
set_option maxRecDepth 100000
set_option maxHeartbeats 400000
theorem szFormS_shr (ts:List Mod.Form):Shr (szS szForm) ts:=fun l h=>szS_shr (fun t _=>szForm_shr t) l h
theorem c_laws_szFormSS (ts:List (List Mod.Form)) (l:Int) (h0:0 ≤ l) (hl1:l ≤ 1048576):C E.P 33 [lv (rowsFF ts),iv l] [] (Eq2 (iv (szS (szS szForm) ts l)) []):=by
 have hLB:=LB_eq
 refine C_goS (nt:=27) (rs:=[.tmp 4]) hm Tryz.func33 rfl rfl rfl rfl rfl (fun hl he=>?_)
 simp -implicitDefEqProofs only [go_sem,Z1,Z2,Z3,Z4] at hl ⊢
 repeat (with_reducible apply And.intro; case left=>omega)
 rcases Classical.em (l - ts.length < 0) with h | h
 ·simp -implicitDefEqProofs only [go_sem,Z1,Z2,Z3,Z4,h]
  refine fin1' ?_
  simp -implicitDefEqProofs only [go_sem,Z1,Z2,Z3,Z4]
  all_goals (simp [szS,h]; done)
 ·simp -implicitDefEqProofs only [go_sem,Z1,Z2,Z3,Z4,h]
  refine loop_go2 hm (fun (i:Nat) (r:Int)=> i ≤ ts.length ∧ 0 ≤ r ∧ r ≤ 1048576 ∧ szS (szS szForm) ts l = szGo (szS szForm) (ts.drop i) r) (fun (i:Nat) (r:Int)=> ⟨mkS 27 .any [(0,lv (rowsFF ts)),(1,iv r),(5,iv i)],[]⟩) (fun (i:Nat) (r:Int)=> ts.length - i) (0) (l - ts.length) ?_ (weakS [] ?_ ?_ rfl rfl) ?_
  rotate_left
  ·simp -implicitDefEqProofs only [go_sem,Z1,Z2,Z3,Z4]
  ·simp -implicitDefEqProofs only [go_sem,Z1,Z2,Z3,Z4]
  rotate_left
  ·exact ⟨by omega,by omega,by omega,by rw [szS,if_neg h]; simp⟩
  ·rintro i r ⟨hi,hr0,hr1,hr⟩
   rcases Classical.em (i < ts.length) with h1 | h1
   ·have hs:=szFormS_shr ts[i] r hr0
    have hc:=c_laws_szFormS ts[i] r hr0 hr1 (fun t _=>szForm_shr t) (fun t _ l h0 h1=>c_laws_szForm t l h0 h1)
    simp -implicitDefEqProofs only [go_sem,Z1,Z2,Z3,Z4,h1]
    refine atCall [] hc ?_ ?_ <;> simp -implicitDefEqProofs only [go_sem,Z1,Z2,Z3,Z4]
    rcases Classical.em (szS szForm ts[i] r < 0) with h2 | h2
    ·simp -implicitDefEqProofs only [go_sem,Z1,Z2,Z3,Z4,h2]
     refine fin1' ?_
     simp -implicitDefEqProofs only [go_sem,Z1,Z2,Z3,Z4]
     rw [hr,szGo_drop h1,if_pos h2]
    ·simp -implicitDefEqProofs only [go_sem,Z1,Z2,Z3,Z4,h2]
     repeat (with_reducible apply And.intro; case left=>omega)
     refine ⟨i + 1,szS szForm ts[i] r,?_,?_,weakS [] ?_ ?_ rfl rfl⟩
     rotate_left
     ·show _ < _
      omega
     ·simp -implicitDefEqProofs only [go_sem,Z1,Z2,Z3,Z4]
     ·simp -implicitDefEqProofs only [go_sem,Z1,Z2,Z3,Z4]
     exact ⟨by omega,by omega,by omega,by rw [hr,szGo_drop h1,if_neg h2]⟩
   ·have:ts.length ≤ i:=by omega
    simp -implicitDefEqProofs only [go_sem,Z1,Z2,Z3,Z4,h1]
    refine fin1' ?_
    simp -implicitDefEqProofs only [go_sem,Z1,Z2,Z3,Z4]
    rw [hr,List.drop_of_length_le this]
    rfl
def szStack (t:Stack) (l:Int):Int:=chn [szSig t.sig,szS (szS szForm) t.levels] l
theorem szStack_chn (t:Stack) (l:Int):szStack t l = chn [szSig t.sig,szS (szS szForm) t.levels] l:=rfl
theorem szStack_shr (t:Stack):Shr szStack t:=chn_shr (by
 intro f hf
 simp only [List.mem_cons,List.not_mem_nil,or_false] at hf
 rcases hf with rfl | rfl
 ·exact (szSig_shr t.sig).shl
 ·exact fun l h=>(szS_shr (fun x _=>szFormS_shr x) l h).2)
theorem c_laws_szStack (t:Stack) (l:Int) (h0:0 ≤ l) (hl1:l ≤ 1048576):C E.P 6 [av (cStack t),iv l] [] (Eq2 (iv (szStack t l)) []):=by
 have hLB:=LB_eq
 refine C_goS (nt:=18) (rs:=[.tmp 4]) hm Tryz.func6 rfl rfl rfl rfl rfl (fun hl he=>?_)
 simp -implicitDefEqProofs only [go_sem,Z1,Z2,Z3,Z4] at hl ⊢
 rw [szStack_chn]
 refine atCall [] (c_laws_szSig t.sig l (by omega) (by omega)) ?_ ?_ <;> simp -implicitDefEqProofs only [go_sem,Z1,Z2,Z3,Z4]
 have s0:=((szSig_shr t.sig).shl) l (by omega)
 generalize hr0:(szSig t.sig l) = r0 at s0 ⊢
 rcases Classical.em (r0 < 0) with h0 | h0
 ·simp -implicitDefEqProofs only [go_sem,Z1,Z2,Z3,Z4,h0]
  refine fin1' ?_
  simp -implicitDefEqProofs only [go_sem,Z1,Z2,Z3,Z4]
  simp [chn,szGo,szN,hr0,h0]
 ·simp -implicitDefEqProofs only [go_sem,Z1,Z2,Z3,Z4,h0]
  refine atCall [] (c_laws_szFormSS t.levels r0 (by omega) (by omega)) ?_ ?_ <;> simp -implicitDefEqProofs only [go_sem,Z1,Z2,Z3,Z4]
  generalize hr1:(szS (szS szForm) t.levels r0) = r1
  rcases Classical.em (r1 < 0) with h1 | h1
  ·simp -implicitDefEqProofs only [go_sem,Z1,Z2,Z3,Z4,h1]
   refine fin1' ?_
   simp -implicitDefEqProofs only [go_sem,Z1,Z2,Z3,Z4]
   simp [chn,szGo,szN,hr0,h0,hr1,h1]
  ·simp -implicitDefEqProofs only [go_sem,Z1,Z2,Z3,Z4,h1]
   refine fin1' ?_
   simp -implicitDefEqProofs only [go_sem,Z1,Z2,Z3,Z4]
   simp [chn,szGo,szN,hr0,h0,hr1,h1]
theorem c_laws_eqFormSS (ts:List (List Mod.Form)):C E.P 41 [lv (rowsFF ts),lv (rowsFF ts)] [] (Eq2 (bv true) []):=by
 have hLB:=LB_eq
 refine C_goS (nt:=27) (rs:=[.tmp 4]) hm Tryz.func41 rfl rfl rfl rfl rfl (fun hl he=>?_)
 simp -implicitDefEqProofs only [go_sem,Z1,Z2,Z3,Z4] at hl ⊢
 refine loop_go1 hm (fun (i:Nat)=> i ≤ ts.length) (fun (i:Nat)=> ⟨mkS 27 .any [(0,lv (rowsFF ts)),(1,lv (rowsFF ts)),(5,iv i)],[]⟩) (fun (i:Nat)=> ts.length - i) (0) ?_ (weakS [] ?_ ?_ rfl rfl) ?_
 rotate_left
 ·simp -implicitDefEqProofs only [go_sem,Z1,Z2,Z3,Z4]
 ·simp -implicitDefEqProofs only [go_sem,Z1,Z2,Z3,Z4]
 rotate_left
 ·omega
 ·rintro i hi
  rcases Classical.em (i < ts.length) with h1 | h1
  ·simp -implicitDefEqProofs only [go_sem,Z1,Z2,Z3,Z4,h1]
   refine atCall [] (c_laws_eqFormS ts[i] (fun t _=>c_laws_eqForm t)) ?_ ?_ <;> simp -implicitDefEqProofs only [go_sem,Z1,Z2,Z3,Z4,h1]
   with_reducible refine ind_andM (by kernel_rfl) ?_
   repeat (with_reducible apply And.intro; case left=>omega)
   refine ⟨i + 1,?_,?_,weakS [] ?_ ?_ rfl rfl⟩
   rotate_left
   ·show _ < _
    omega
   ·simp -implicitDefEqProofs only [go_sem,Z1,Z2,Z3,Z4]
   ·simp -implicitDefEqProofs only [go_sem,Z1,Z2,Z3,Z4]
   exact h1
  ·simp -implicitDefEqProofs only [go_sem,Z1,Z2,Z3,Z4,h1]
   refine fin1' ?_
   simp -implicitDefEqProofs only [go_sem,Z1,Z2,Z3,Z4]
theorem c_laws_eqStack (t:Stack):C E.P 10 [av (cStack t),av (cStack t)] [] (Eq2 (bv true) []):=by
 have hLB:=LB_eq
 refine C_goS (nt:=17) (rs:=[.tmp 4]) hm Tryz.func10 rfl rfl rfl rfl rfl (fun hl he=>?_)
 simp -implicitDefEqProofs only [go_sem,Z1,Z2,Z3,Z4] at hl ⊢
 refine atCall [] (c_laws_eqSig t.sig) ?_ ?_ <;> simp -implicitDefEqProofs only [go_sem,Z1,Z2,Z3,Z4]
 refine atCall [] (c_laws_eqFormSS t.levels) ?_ ?_ <;> simp -implicitDefEqProofs only [go_sem,Z1,Z2,Z3,Z4]
 refine fin1' ?_
 simp -implicitDefEqProofs only [go_sem,Z1,Z2,Z3,Z4]
def Use (f:Int → Int) (c:Int):Prop:=∀ l,0 ≤ l → 0 ≤ f l → 7 * f l + c ≤ 7 * l
theorem Use.le {f:Int → Int} {c d:Int} (h:Use f c) (hd:d ≤ c):Use f d:=fun l h0 h1=>by have:=h l h0 h1; omega
theorem use_nil:Use (chn []) 0:=fun l _ _=>by simp [chn,szGo]
theorem use_cons {f:Int → Int} {fs:List (Int → Int)} {c d:Int} (hf:Use f c) (hfs:Use (chn fs) d):Use (chn (f :: fs)) (c + d):=fun l h0 h1=>by
 have e:chn (f :: fs) l = if f l < 0 then -1 else chn fs (f l):=rfl
 rw [e] at h1 ⊢
 rcases Classical.em (f l < 0) with hx | hx
 ·rw [if_pos hx] at h1; omega
 ·rw [if_neg hx] at h1 ⊢
  have k1:=hf l h0 (by omega)
  have k2:=hfs (f l) (by omega) h1
  omega
theorem use_N (n:Nat):Use (szN n) 0:=fun l _ _=>by unfold szN; omega
theorem use_I (ns:List Int):Use (szI ns) ns.length:=fun l _ h1=>by
 unfold szI at h1 ⊢
 split at h1 <;> omega
theorem use_S {α:Type} {f:α → Int → Int} {c:α → Nat}:∀ (xs:List α),(∀ x ∈ xs,Use (f x) ((c x:Int) - 7)) → Use (szS f xs) (ctL c xs):=by
 have key:∀ (xs:List α),(∀ x ∈ xs,Use (f x) ((c x:Int) - 7)) → ∀ (l:Int),0 ≤ l → 0 ≤ szGo f xs l → 7 * szGo f xs l + ctL c xs ≤ 7 * l + 7 * xs.length:=by
  intro xs
  induction xs with
  | nil=>intro _ l _ _; simp [szGo,ctL]
  | cons x xs ih=>
    intro h l h0 h1
    simp only [szGo] at h1 ⊢
    rcases Classical.em (f x l < 0) with hx | hx
    ·rw [if_pos hx] at h1; omega
    ·rw [if_neg hx] at h1 ⊢
     have k1:=ih (fun y hy=>h y (by simp [hy])) (f x l) (by omega) h1
     have k2:=h x (by simp) l h0 (by omega)
     simp only [ctL,List.length_cons]
     omega
 intro xs h l h0 h1
 unfold szS at h1 ⊢
 rcases Classical.em (l - xs.length < 0) with hx | hx
 ·rw [if_pos hx] at h1; omega
 ·rw [if_neg hx] at h1 ⊢
  have:=key xs h (l - xs.length) (by omega) h1
  omega
theorem use_Term:∀ (t:Term),Use (szTerm t) ((ctT t:Int) - 1):=Term.ind fun n ks ih=>by
 have h:=use_cons (use_N n.length) (use_cons (use_S (f:=szTerm) (c:=ctT) ks fun x hx=>(ih x hx).le (by omega)) use_nil)
 intro l h0 h1
 rw [szTerm_chn] at h1 ⊢
 have:=h l h0 h1
 rw [ctT_eq]
 rw [← ctTs_L] at this
 simp only [Term.name,Term.kids] at this ⊢
 omega
theorem use_Terms (ts:List Term):Use (szS szTerm ts) (ctTs ts):=by
 rw [ctTs_L]
 exact use_S ts fun x _=>(use_Term x).le (by omega)
theorem use_Lit (t:LitD):Use (szLit t) ((ctLit t:Int) - 6):=by
 have h:=use_cons (use_cons (use_Term t.atom.A) (use_cons (use_Term t.atom.B) (use_cons (use_Terms t.atom.nums) (use_cons (use_I t.atom.times) use_nil)))) use_nil
 refine Use.le (f:=szLit t) (fun l h0 h1=>h l h0 h1) ?_
 unfold ctLit
 omega
theorem use_Form:∀ (t:Mod.Form),Use (szForm t) ((ctForm t:Int) - 7):=Form.ind fun k x ks ih=>by
 have h:=use_cons (use_Lit x) (use_cons (use_S (f:=szForm) (c:=ctForm) ks ih) use_nil)
 intro l h0 h1
 rw [szForm_chn] at h1 ⊢
 have:=h l h0 h1
 rw [ctForm_eq]
 rw [← ctForms_L] at this
 simp only [Form.lit,Form.kids] at this ⊢
 omega
theorem use_Forms (ts:List Mod.Form):Use (szS szForm ts) (ctForms ts):=by
 rw [ctForms_L]
 exact use_S ts fun x _=>use_Form x
theorem use_Sig (t:Sig):Use (szSig t) (ctL ctSym t.syms):=by
 have h:=use_cons (use_S (f:=szSym) (c:=ctSym) t.syms fun x _=>by
  have h:=use_cons (use_N x.name.length) (use_cons (use_I x.args) use_nil)
  refine Use.le (f:=szSym x) (fun l h0 h1=>h l h0 h1) ?_
  unfold ctSym
  omega) use_nil
 exact Use.le (f:=szSig t) (fun l h0 h1=>h l h0 h1) (by omega)
theorem use_Stack (t:Stack):Use (szStack t) (ctStack t):=by
 have h:=use_cons (use_Sig t.sig) (use_cons (use_S (f:=szS szForm) (c:=ctForms) t.levels fun x _=>(use_Forms x).le (by omega)) use_nil)
 refine Use.le (f:=szStack t) (fun l h0 h1=>h l h0 h1) ?_
 unfold ctStack
 omega
end Go.Proofs.YtgeogofjlhjcmaaGreat
