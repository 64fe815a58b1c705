/-
  The reference: the walks of lemmas. A step towards the exact laws.
-/
import Derived.Test.YthpjgpbcfdfmoaaGreatKLj
import Derived.Test.YthpjgpbcfdfmoaaGreatKLV
import Derived.Test.YthpjgpbcfdfmoaaGreatKLE
set_option linter.unusedVariables false
set_option linter.unusedSimpArgs false
namespace Go.Proofs.YthpjgpbcfdfmoaaGreat
open Go.Eng Go.Mod
open Int renaming reduceEq → Z1, reduceLT → Z2, reduceLE → Z3, reduceToNat → Z4
set_option maxRecDepth 100000
set_option maxHeartbeats 400000
def abs60 (n : Int) : Int := if n < -60 then 61 else if 60 < n then 61 else if n < 0 then -n else n
theorem abs60_le {n : Int} {many : Nat} (h : many ≤ 60) : abs60 n ≤ many ↔ -(many : Int) ≤ n ∧ n ≤ many := by
  unfold abs60; split
  · omega
  · split
    · omega
    · split <;> omega
theorem abs60_nat {n : Int} (h : -60 ≤ n ∧ n ≤ 60) : abs60 n = (n.natAbs : Int) := by
  unfold abs60
  rw [if_neg (by omega), if_neg (by omega)]
  split <;> omega
theorem c_spec_l10Abs (n : Int) : C E.P 101 [iv n] [] (Eq2 (iv (abs60 n)) []) := by
  have hLB : LB = 1099511627776 := rfl
  refine C_goS (nt := 14) (rs := [.tmp 2]) hm Tryz.func101 rfl rfl rfl rfl rfl (fun hl he => ?_)
  simp -implicitDefEqProofs only [go_sem, Z1, Z2, Z3, Z4] at hl ⊢
  rcases Classical.em (n < -60) with h1 | h1
  · simp -implicitDefEqProofs only [go_sem, Z1, Z2, Z3, Z4, h1]
    refine fin1' ?_
    simp -implicitDefEqProofs only [go_sem, Z1, Z2, Z3, Z4]
    all_goals (simp [abs60, h1]; done)
  · rcases Classical.em (60 < n) with h2 | h2
    · simp -implicitDefEqProofs only [go_sem, Z1, Z2, Z3, Z4, h1, h2]
      refine fin1' ?_
      simp -implicitDefEqProofs only [go_sem, Z1, Z2, Z3, Z4]
      all_goals (simp [abs60, h1, h2]; done)
    · rcases Classical.em (n < 0) with h3 | h3
      · simp -implicitDefEqProofs only [go_sem, Z1, Z2, Z3, Z4, h1, h2, h3]
        repeat (with_reducible apply And.intro; case left => omega)
        refine fin1' ?_
        simp -implicitDefEqProofs only [go_sem, Z1, Z2, Z3, Z4]
        all_goals (simp [abs60, h1, h2, h3]; done)
      · simp -implicitDefEqProofs only [go_sem, Z1, Z2, Z3, Z4, h1, h2, h3]
        refine fin1' ?_
        simp -implicitDefEqProofs only [go_sem, Z1, Z2, Z3, Z4]
        all_goals (simp [abs60, h1, h2, h3]; done)
theorem c_spec_l10At (l : List Int) (n : Int) (hn : -60 ≤ n ∧ n ≤ 60) : C E.P 102 [lv (rowsI l), iv n] [] (Eq2 (iv (at0 l n)) []) := by
  have hLB : LB = 1099511627776 := rfl
  refine C_goS (nt := 25) (rs := [.tmp 4]) hm Tryz.func102 rfl rfl rfl rfl rfl (fun hl he => ?_)
  simp -implicitDefEqProofs only [go_sem, Z1, Z2, Z3, Z4] at hl ⊢
  refine loop_go1 hm (fun (i : Nat) =>  i ≤ l.length ∧ at0 l n = at0 (l.drop i) n) (fun (i : Nat) =>  ⟨mkS 25 .any [(0, lv (rowsI l)), (1, iv n), (5, iv i)], []⟩) (fun (i : Nat) =>  l.length - i) (0) ?_ (weakS [] ?_ ?_ rfl rfl) ?_
  rotate_left
  · simp -implicitDefEqProofs only [go_sem, Z1, Z2, Z3, Z4]
  · simp -implicitDefEqProofs only [go_sem, Z1, Z2, Z3, Z4]
  rotate_left
  · simp
  · rintro i ⟨hi, hg⟩
    rcases Classical.em (i < l.length) with h1 | h1
    · rw [List.drop_eq_getElem_cons h1, at0] at hg
      rcases Classical.em (l[i] = n) with h2 | h2
      · rw [if_pos h2] at hg
        have k2 := eq_true h2
        simp -implicitDefEqProofs only [go_sem, Z1, Z2, Z3, Z4, h1, k2]
        refine fin1' ?_
        simp -implicitDefEqProofs only [go_sem, Z1, Z2, Z3, Z4]
        all_goals (simp [hg]; done)
      · rw [if_neg h2] at hg
        rcases Classical.em (l[i] = -n) with h3 | h3
        · rw [if_pos h3] at hg
          have k3 := eq_true h3
          simp -implicitDefEqProofs only [go_sem, Z1, Z2, Z3, Z4, h1, h2]
          repeat (with_reducible apply And.intro; case left => omega)
          simp -implicitDefEqProofs only [go_sem, Z1, Z2, Z3, Z4, k3]
          refine fin1' ?_
          simp -implicitDefEqProofs only [go_sem, Z1, Z2, Z3, Z4]
          all_goals (simp [hg]; done)
        · rw [if_neg h3] at hg
          simp -implicitDefEqProofs only [go_sem, Z1, Z2, Z3, Z4, h1, h2]
          repeat (with_reducible apply And.intro; case left => omega)
          simp -implicitDefEqProofs only [go_sem, Z1, Z2, Z3, Z4, h3]
          repeat (with_reducible apply And.intro; case left => omega)
          refine ⟨i + 1, ?_, ?_, weakS [] ?_ ?_ rfl rfl⟩
          rotate_left
          · show _ < _
            omega
          · simp -implicitDefEqProofs only [go_sem, Z1, Z2, Z3, Z4]
          · simp -implicitDefEqProofs only [go_sem, Z1, Z2, Z3, Z4]
          exact ⟨by omega, hg⟩
    · rw [List.drop_of_length_le (by omega), at0] at hg
      simp -implicitDefEqProofs only [go_sem, Z1, Z2, Z3, Z4, h1]
      refine fin1' ?_
      simp -implicitDefEqProofs only [go_sem, Z1, Z2, Z3, Z4]
      all_goals (simp [hg]; done)
theorem c_spec_l10Right (marks : List Int) (many : Nat) (hm1 : many ≤ 60) : C E.P 51 [lv (rowsI marks), iv many] [] (Eq2 (bv (isSelection marks many)) []) := by
  have e : isSelection marks many = selGo [] marks many := rfl
  have hLB : LB = 1099511627776 := rfl
  refine C_goS (nt := 37) (rs := [.tmp 4]) hm Tryz.func51 rfl rfl rfl rfl rfl (fun hl he => ?_)
  simp -implicitDefEqProofs only [go_sem, Z1, Z2, Z3, Z4] at hl ⊢
  refine loop_go1 hm (fun (i : Nat) =>  i ≤ marks.length ∧ selGo [] marks many = selGo (marks.take i) (marks.drop i) many) (fun (i : Nat) =>  ⟨mkS 37 .any [(0, lv (rowsI marks)), (1, iv many), (5, iv i)], []⟩) (fun (i : Nat) =>  marks.length - i) (0) ?_ (weakS [] ?_ ?_ rfl rfl) ?_
  rotate_left
  · simp -implicitDefEqProofs only [go_sem, Z1, Z2, Z3, Z4]
  · simp -implicitDefEqProofs only [go_sem, Z1, Z2, Z3, Z4]
  rotate_left
  · simp
  · rintro i ⟨hi, hg⟩
    rcases Classical.em (i < marks.length) with h1 | h1
    · rw [selGo_take h1] at hg
      rcases Classical.em (marks[i] = 0) with h2 | h2
      · have k2 := eq_true h2
        have e2 : isMark marks[i] many = false := by simp [isMark, h2]
        rw [e2, Bool.false_and] at hg
        simp -implicitDefEqProofs only [go_sem, Z1, Z2, Z3, Z4, h1, k2]
        with_reducible refine ind_andM (by kernel_rfl) ?_
        refine fin1' ?_
        simp -implicitDefEqProofs only [go_sem, Z1, Z2, Z3, Z4]
        all_goals (simp [e, hg]; done)
      · simp -implicitDefEqProofs only [go_sem, Z1, Z2, Z3, Z4, h1, h2]
        have hcall := c_spec_l10Abs marks[i]
        refine atCall [] hcall ?_ ?_ <;> simp -implicitDefEqProofs only [go_sem, Z1, Z2, Z3, Z4, h1]
        rcases Classical.em ((many : Int) < abs60 marks[i]) with h3 | h3
        · have e2 : isMark marks[i] many = false := by
            cases hh : isMark marks[i] many
            · rfl
            · simp only [isMark, Bool.and_eq_true, withinB_iff] at hh
              have := (abs60_le hm1).2 hh.2
              omega
          rw [e2, Bool.false_and] at hg
          simp -implicitDefEqProofs only [go_sem, Z1, Z2, Z3, Z4, h3]
          with_reducible refine ind_andM (by kernel_rfl) ?_
          refine fin1' ?_
          simp -implicitDefEqProofs only [go_sem, Z1, Z2, Z3, Z4]
          all_goals (simp [e, hg]; done)
        · have hb := (abs60_le (n := marks[i]) hm1).1 (by omega)
          have e2 : isMark marks[i] many = true := by
            simp only [isMark, Bool.and_eq_true, decide_eq_true_eq, withinB_iff]
            exact ⟨h2, hb⟩
          rw [e2, Bool.true_and] at hg
          have hz := at0_zero (l := marks.take i) (n := marks[i])
          simp -implicitDefEqProofs only [go_sem, Z1, Z2, Z3, Z4, h3, h1]
          refine And.intro ⟨by omega, rowsI_all _⟩ ?_
          simp -implicitDefEqProofs only [go_sem, Z1, Z2, Z3, Z4, Nat.sub_zero, List.drop_zero, rowsI_take]
          have hcall := c_spec_l10At (marks.take i) marks[i] (by omega)
          refine atCall [] hcall ?_ ?_ <;> simp -implicitDefEqProofs only [go_sem, Z1, Z2, Z3, Z4]
          with_reducible refine ind_andM (by kernel_rfl) ?_
          rcases Classical.em (at0 (marks.take i) marks[i] = 0) with h4 | h4
          · have k4 := eq_true h4
            obtain ⟨z1, z2⟩ := hz.1 h4
            rw [z1, z2] at hg
            simp only [Bool.not_false, Bool.true_and] at hg
            simp -implicitDefEqProofs only [go_sem, Z1, Z2, Z3, Z4, k4]
            repeat (with_reducible apply And.intro; case left => omega)
            refine ⟨i + 1, ?_, ?_, weakS [] ?_ ?_ rfl rfl⟩
            rotate_left
            · show _ < _
              omega
            · simp -implicitDefEqProofs only [go_sem, Z1, Z2, Z3, Z4]
            · simp -implicitDefEqProofs only [go_sem, Z1, Z2, Z3, Z4]
            exact ⟨by omega, hg⟩
          · have e3 : isSelection marks many = false := by
              rw [e, hg]
              cases z1 : (marks.take i).contains marks[i]
              · cases z2 : (marks.take i).contains (-marks[i])
                · exact absurd (hz.2 ⟨z1, z2⟩) h4
                · simp
              · simp
            simp -implicitDefEqProofs only [go_sem, Z1, Z2, Z3, Z4, h4]
            refine fin1' ?_
            simp -implicitDefEqProofs only [go_sem, Z1, Z2, Z3, Z4]
            all_goals (simp [e3]; done)
    · rw [selGo_end (by omega)] at hg
      simp -implicitDefEqProofs only [go_sem, Z1, Z2, Z3, Z4, h1]
      refine fin1' ?_
      simp -implicitDefEqProofs only [go_sem, Z1, Z2, Z3, Z4]
      all_goals (simp [e, hg]; done)
theorem c_spec_l12Lits (atoms : List Atom) (marks : List Int) (hlen : atoms.length ≤ 60) (hin : ∀ m ∈ marks, m ≠ 0 ∧ -(atoms.length : Int) ≤ m ∧ m ≤ atoms.length) (hl9 : marks.length ≤ 900000) : C E.P 53 [lv (rowsAtom atoms), lv (rowsI marks)] [] (Eq2 (lv (rowsLit (standFor marks atoms))) []) := by
  have hLB : LB = 1099511627776 := rfl
  refine C_goS (nt := 33) (rs := [.tmp 4]) hm Tryz.func53 rfl rfl rfl rfl rfl (fun hl he => ?_)
  simp -implicitDefEqProofs only [go_sem, Z1, Z2, Z3, Z4] at hl ⊢
  refine loop_go1 hm (fun (i : Nat) =>  i ≤ marks.length) (fun (i : Nat) =>  ⟨mkS 33 .any [(0, lv (rowsAtom atoms)), (1, lv (rowsI marks)), (5, .acc 0), (6, iv i)], [some (.acc 58 (rowsLit (standFor (marks.take i) atoms)))]⟩) (fun (i : Nat) =>  marks.length - i) (0) ?_ (weakS [some 0] ?_ ?_ rfl rfl) ?_
  rotate_left
  · simp -implicitDefEqProofs only [go_sem, Z1, Z2, Z3, Z4]
  · simp -implicitDefEqProofs only [go_sem, Z1, Z2, Z3, Z4]
    all_goals (simp [standFor, rowsLit])
  rotate_left
  · omega
  · rintro i hi
    have hv : (standFor (marks.take i) atoms).length = i := by simp only [standFor, List.length_map, List.length_take]; omega
    rcases Classical.em (i < marks.length) with h1 | h1
    · obtain ⟨q1, q2, q3⟩ := hin marks[i] (List.getElem_mem h1)
      have q4 := abs60_nat (n := marks[i]) (by omega)
      have q5 : ((marks[i].natAbs : Int) - 1) = ((marks[i].natAbs - 1 : Nat) : Int) := by omega
      have q6 : marks[i].natAbs - 1 < atoms.length := by omega
      have q7 : atoms.getD (marks[i].natAbs - 1) atom0 = atoms[marks[i].natAbs - 1] := by simp [List.getD, q6]
      have hc := c_spec_l10Abs marks[i]
      rw [q4] at hc
      simp -implicitDefEqProofs only [go_sem, Z1, Z2, Z3, Z4, h1]
      have hcall := hc 
      refine atCall [] hcall ?_ ?_ <;> simp -implicitDefEqProofs only [go_sem, Z1, Z2, Z3, Z4]
      simp -implicitDefEqProofs only [go_sem, Z1, Z2, Z3, Z4, q5, q6, h1]
      repeat (first | with_reducible refine ind_andM (by kernel_rfl) ?_ | (with_reducible apply And.intro; case left => omega))
      refine ⟨i + 1, ?_, ?_, weakS [some 1] ?_ ?_ rfl rfl⟩
      rotate_left
      · show _ < _
        omega
      · simp -implicitDefEqProofs only [go_sem, Z1, Z2, Z3, Z4]
      · simp -implicitDefEqProofs only [go_sem, Z1, Z2, Z3, Z4]
        all_goals ((rw [standFor_snoc h1, q7, ← rowsLit_app]; rfl))
      exact h1
    · have et : marks.take i = marks := List.take_of_length_le (by omega)
      simp -implicitDefEqProofs only [go_sem, Z1, Z2, Z3, Z4, h1, et]
      refine fin1' ?_
      simp -implicitDefEqProofs only [go_sem, Z1, Z2, Z3, Z4]
theorem formsOk_some {s : Sig} {list : List Mod.Form} (h : formsOk s list = true) : list.length ≤ 5 ∧ (∀ f ∈ list, isForm f = true) ∧ (withAtomss [] list).length ≤ 6 ∧ formsAtoms list = some (withAtomss [] list) := by
  have e := formsAtoms_eq list
  unfold formsOk at h
  rcases Classical.em (list.length ≤ 5 ∧ list.all isForm = true ∧ (withAtomss [] list).length ≤ 6) with hc | hc
  · rw [if_pos hc] at e
    exact ⟨hc.1, List.all_eq_true.1 hc.2.1, hc.2.2, e⟩
  · rw [if_neg hc] at e
    rw [e] at h
    cases h
theorem c_spec_LemmaOk (s : Sig) (list : List Mod.Form) (l : Mod.Lemma) : C E.P 23 [av (cSig s), lv (rowsForm list), av (cLemma l)] [] (Eq2 (bv (lemmaOk s list l)) []) := by
  have hLB : LB = 1099511627776 := rfl
  refine C_goS (nt := 35) (rs := [.tmp 6]) hm Tryz.func23 rfl rfl rfl rfl rfl (fun hl he => ?_)
  simp -implicitDefEqProofs only [go_sem, Z1, Z2, Z3, Z4] at hl ⊢
  have hcall := c_spec_FormsOk s list
  refine atCall [] hcall ?_ ?_ <;> simp -implicitDefEqProofs only [go_sem, Z1, Z2, Z3, Z4]
  cases h1 : formsOk s list
  · simp -implicitDefEqProofs only [go_sem, Z1, Z2, Z3, Z4]
    refine fin1' ?_
    simp -implicitDefEqProofs only [go_sem, Z1, Z2, Z3, Z4]
    all_goals (simp [lemmaOk, h1]; done)
  · obtain ⟨f1, f2, f3, f4⟩ := formsOk_some h1
    have e : lemmaOk s list l = (decide (0 < l.marks.length) && (isSelection l.marks (withAtomss [] list).length && caseOk s (standFor l.marks (withAtomss [] list)) l.case)) := by
      unfold lemmaOk; rw [h1, f4]; rfl
    simp -implicitDefEqProofs only [go_sem, Z1, Z2, Z3, Z4]
    have hcall := c_spec_l10Told list f2 f1
    refine atCall [] hcall ?_ ?_ <;> simp -implicitDefEqProofs only [go_sem, Z1, Z2, Z3, Z4]
    rcases Classical.em ((0 : Int) < (l.marks.length : Int)) with h2 | h2
    · have h2' : 0 < l.marks.length := by omega
      simp -implicitDefEqProofs only [go_sem, Z1, Z2, Z3, Z4, h2]
      have hcall := c_spec_l10Right l.marks (withAtomss [] list).length (by omega)
      refine atCall [] hcall ?_ ?_ <;> simp -implicitDefEqProofs only [go_sem, Z1, Z2, Z3, Z4]
      cases h3 : isSelection l.marks (withAtomss [] list).length
      · simp -implicitDefEqProofs only [go_sem, Z1, Z2, Z3, Z4]
        with_reducible refine ind_andM (by kernel_rfl) ?_
        refine fin1' ?_
        simp -implicitDefEqProofs only [go_sem, Z1, Z2, Z3, Z4]
        all_goals (simp [e, h3]; done)
      · simp -implicitDefEqProofs only [go_sem, Z1, Z2, Z3, Z4]
        have hcall := c_spec_l12Lits (withAtomss [] list) l.marks (by omega) (isSelection_mem h3) (sel_len h3 (by omega))
        refine atCall [] hcall ?_ ?_ <;> simp -implicitDefEqProofs only [go_sem, Z1, Z2, Z3, Z4]
        have hcall := c_spec_CaseOk s (standFor l.marks (withAtomss [] list)) l.case
        refine atCall [] hcall ?_ ?_ <;> simp -implicitDefEqProofs only [go_sem, Z1, Z2, Z3, Z4]
        with_reducible refine ind_andM (by kernel_rfl) ?_
        refine fin1' ?_
        simp -implicitDefEqProofs only [go_sem, Z1, Z2, Z3, Z4]
        all_goals (simp [e, h3, h2']; done)
    · have h2' : ¬ 0 < l.marks.length := by omega
      simp -implicitDefEqProofs only [go_sem, Z1, Z2, Z3, Z4, h2]
      with_reducible refine ind_andM (by kernel_rfl) ?_
      refine fin1' ?_
      simp -implicitDefEqProofs only [go_sem, Z1, Z2, Z3, Z4]
      all_goals (simp [e, h2']; done)
end Go.Proofs.YthpjgpbcfdfmoaaGreat
