/-
  The reference: the walks of models. A step towards the exact laws.
-/
import Derived.Test.YthpjgpbcfdfmoaaGreatKSI
import Derived.Test.YthpjgpbcfdfmoaaGreatKSP
import Derived.Test.YthpjgpbcfdfmoaaGreatKSa
set_option linter.unusedVariables false
set_option linter.unusedSimpArgs false
namespace Go.Proofs.YthpjgpbcfdfmoaaGreat
open Go.Eng Go.Mod
open Int renaming reduceEq → Z1, reduceLT → Z2, reduceLE → Z3, reduceToNat → Z4
set_option maxRecDepth 100000
set_option maxHeartbeats 400000
theorem c_spec_l7Rats (a b : List Mod.Rat) : C E.P 193 [lv (rowsRat a), lv (rowsRat b)] [] (Eq2 (bv (decide (a = b))) []) := by
  have hLB : LB = 1099511627776 := rfl
  refine C_goS (nt := 26) (rs := [.tmp 4]) hm Tryz.func193 rfl rfl rfl rfl rfl (fun hl he => ?_)
  simp -implicitDefEqProofs only [go_sem, Z1, Z2, Z3, Z4] at hl ⊢
  rcases Classical.em (a.length = b.length) with h2 | h2
  · have k2 := eq_true h2
    simp -implicitDefEqProofs only [go_sem, Z1, Z2, Z3, Z4, k2]
    refine loop_go1 hm (fun (i : Nat) =>  i ≤ a.length ∧ (a = b ↔ a.drop i = b.drop i)) (fun (i : Nat) =>  ⟨mkS 26 .any [(0, lv (rowsRat a)), (1, lv (rowsRat b)), (5, iv i)], []⟩) (fun (i : Nat) =>  a.length - i) (0) ?_ (weakS [] ?_ ?_ rfl rfl) ?_
    rotate_left
    · simp -implicitDefEqProofs only [go_sem, Z1, Z2, Z3, Z4]
    · simp -implicitDefEqProofs only [go_sem, Z1, Z2, Z3, Z4]
    rotate_left
    · simp
    · rintro i ⟨hi, hg⟩
      rcases Classical.em (i < a.length) with h3 | h3
      · have h4 : i < b.length := by omega
        rw [drop_eq h3 h4] at hg
        simp -implicitDefEqProofs only [go_sem, Z1, Z2, Z3, Z4, h3, h4]
        refine atPairN (by kernel_rfl) (a := a[i].N) (b := a[i].D) (c := b[i].N) (e := b[i].D) (by simp -implicitDefEqProofs only [go_sem, Z1, Z2, Z3, Z4]) (by simp -implicitDefEqProofs only [go_sem, Z1, Z2, Z3, Z4]) ?_
        rw [eqPair_rat]
        rcases Classical.em (a[i] = b[i]) with h5 | h5
        · have k5 := eq_true h5
          simp -implicitDefEqProofs only [go_sem, Z1, Z2, Z3, Z4, k5]
          with_reducible refine ind_andM (by kernel_rfl) ?_
          repeat (with_reducible apply And.intro; case left => omega)
          refine ⟨i + 1, ?_, ?_, weakS [] ?_ ?_ rfl rfl⟩
          rotate_left
          · show _ < _
            omega
          · simp -implicitDefEqProofs only [go_sem, Z1, Z2, Z3, Z4]
          · simp -implicitDefEqProofs only [go_sem, Z1, Z2, Z3, Z4]
          refine ⟨by omega, ?_⟩
          rw [hg]
          simp [h5]
        · have e : ¬ a = b := fun hh => h5 (hg.1 hh).1
          simp -implicitDefEqProofs only [go_sem, Z1, Z2, Z3, Z4, h5]
          with_reducible refine ind_andM (by kernel_rfl) ?_
          refine fin1' ?_
          simp -implicitDefEqProofs only [go_sem, Z1, Z2, Z3, Z4]
          all_goals (simp [e]; done)
      · rw [List.drop_of_length_le (by omega), List.drop_of_length_le (by omega)] at hg
        simp -implicitDefEqProofs only [go_sem, Z1, Z2, Z3, Z4, h3]
        refine fin1' ?_
        simp -implicitDefEqProofs only [go_sem, Z1, Z2, Z3, Z4]
        all_goals (simp [hg]; done)
  · have e : ¬ a = b := fun hh => h2 (by rw [hh])
    simp -implicitDefEqProofs only [go_sem, Z1, Z2, Z3, Z4, h2]
    refine fin1' ?_
    simp -implicitDefEqProofs only [go_sem, Z1, Z2, Z3, Z4]
    all_goals (simp [e]; done)
theorem c_spec_l7Fit (x : Mod.Rat) (sort : Int) : C E.P 93 [av (cRat x), iv sort] [] (Eq2 (bv (ratOk x && suits x sort)) []) := by
  have hLB : LB = 1099511627776 := rfl
  refine C_goS (nt := 16) (rs := [.tmp 4]) hm Tryz.func93 rfl rfl rfl rfl rfl (fun hl he => ?_)
  simp -implicitDefEqProofs only [go_sem, Z1, Z2, Z3, Z4] at hl ⊢
  have hcall := c_spec_RatOk x
  refine atCall [] hcall ?_ ?_ <;> simp -implicitDefEqProofs only [go_sem, Z1, Z2, Z3, Z4]
  cases h1 : ratOk x
  · simp -implicitDefEqProofs only [go_sem, Z1, Z2, Z3, Z4]
    refine fin1' ?_
    simp -implicitDefEqProofs only [go_sem, Z1, Z2, Z3, Z4]
  · simp -implicitDefEqProofs only [go_sem, Z1, Z2, Z3, Z4]
    rcases Classical.em (sort = 1) with h2 | h2
    · have k := eq_true h2
      simp -implicitDefEqProofs only [go_sem, Z1, Z2, Z3, Z4, k]
      refine fin1' ?_
      simp -implicitDefEqProofs only [go_sem, Z1, Z2, Z3, Z4]
      all_goals (simp [suits, h2]; done)
    · simp -implicitDefEqProofs only [go_sem, Z1, Z2, Z3, Z4, h2]
      refine fin1' ?_
      simp -implicitDefEqProofs only [go_sem, Z1, Z2, Z3, Z4]
      all_goals (simp [suits, h2]; done)
theorem c_spec_l7Row (x : Mod.Row) : C E.P 154 [av (cRow x)] [] (Eq2 (bv (rowWf x)) []) := by
  have hLB : LB = 1099511627776 := rfl
  refine C_goS (nt := 32) (rs := [.tmp 2]) hm Tryz.func154 rfl rfl rfl rfl rfl (fun hl he => ?_)
  simp -implicitDefEqProofs only [go_sem, Z1, Z2, Z3, Z4] at hl ⊢
  refine loop_go1 hm (fun (i : Nat) =>  i ≤ x.args.length ∧ x.args.all ratOk = (x.args.drop i).all ratOk) (fun (i : Nat) =>  ⟨mkS 32 .any [(1, .ptr 0 0), (3, iv i)], [some (.box (pvs (cRow x)))]⟩) (fun (i : Nat) =>  x.args.length - i) (0) ?_ (weakS [some 0] ?_ ?_ rfl rfl) ?_
  rotate_left
  · simp -implicitDefEqProofs only [go_sem, Z1, Z2, Z3, Z4]
  · simp -implicitDefEqProofs only [go_sem, Z1, Z2, Z3, Z4]
  rotate_left
  · simp
  · rintro i ⟨hi, hg⟩
    rcases Classical.em (i < x.args.length) with h1 | h1
    · rw [List.drop_eq_getElem_cons h1, List.all_cons] at hg
      simp -implicitDefEqProofs only [go_sem, Z1, Z2, Z3, Z4, h1]
      have hcall := c_spec_RatOk x.args[i]
      refine atCall [] hcall ?_ ?_ <;> simp -implicitDefEqProofs only [go_sem, Z1, Z2, Z3, Z4]
      cases h2 : ratOk x.args[i]
      · rw [h2, Bool.false_and] at hg
        simp -implicitDefEqProofs only [go_sem, Z1, Z2, Z3, Z4]
        refine fin1' ?_
        simp -implicitDefEqProofs only [go_sem, Z1, Z2, Z3, Z4]
        all_goals (simp [rowWf, hg]; done)
      · rw [h2, Bool.true_and] at hg
        simp -implicitDefEqProofs only [go_sem, Z1, Z2, Z3, Z4]
        repeat (with_reducible apply And.intro; case left => omega)
        refine ⟨i + 1, ?_, ?_, weakS [some 0] ?_ ?_ rfl rfl⟩
        rotate_left
        · show _ < _
          omega
        · simp -implicitDefEqProofs only [go_sem, Z1, Z2, Z3, Z4]
        · simp -implicitDefEqProofs only [go_sem, Z1, Z2, Z3, Z4]
        exact ⟨by omega, hg⟩
    · rw [List.drop_of_length_le (by omega), List.all_nil] at hg
      simp -implicitDefEqProofs only [go_sem, Z1, Z2, Z3, Z4, h1]
      have hcall := c_spec_NameOk x.name
      refine atCall [] hcall ?_ ?_ <;> simp -implicitDefEqProofs only [go_sem, Z1, Z2, Z3, Z4]
      cases h2 : nameOk x.name
      · simp -implicitDefEqProofs only [go_sem, Z1, Z2, Z3, Z4]
        refine fin1' ?_
        simp -implicitDefEqProofs only [go_sem, Z1, Z2, Z3, Z4]
        all_goals (simp [rowWf, h2]; done)
      · simp -implicitDefEqProofs only [go_sem, Z1, Z2, Z3, Z4]
        rcases Classical.em ((x.args.length : Int) ≤ 2) with h3' | h3'
        · have h3 : x.args.length ≤ 2 := by omega
          simp -implicitDefEqProofs only [go_sem, Z1, Z2, Z3, Z4, h3']
          have hcall := c_spec_RatOk x.val
          refine atCall [] hcall ?_ ?_ <;> simp -implicitDefEqProofs only [go_sem, Z1, Z2, Z3, Z4]
          refine fin1' ?_
          simp -implicitDefEqProofs only [go_sem, Z1, Z2, Z3, Z4]
          all_goals (simp [rowWf, h2, h3, hg]; done)
        · have h3 : ¬ x.args.length ≤ 2 := by omega
          simp -implicitDefEqProofs only [go_sem, Z1, Z2, Z3, Z4, h3']
          refine fin1' ?_
          simp -implicitDefEqProofs only [go_sem, Z1, Z2, Z3, Z4]
          all_goals (simp [rowWf, h2, h3]; done)
theorem ratsLess_drop {xs ys : List Mod.Rat} {i : Nat} (h : i < xs.length) (h' : i < ys.length) : ratsLess (xs.drop i) (ys.drop i) = if xs[i] = ys[i] then ratsLess (xs.drop (i + 1)) (ys.drop (i + 1)) else ratLess xs[i] ys[i] := by
  rw [List.drop_eq_getElem_cons h, List.drop_eq_getElem_cons h', ratsLess]
theorem c_spec_l7Less (a b : Mod.Row) : C E.P 155 [av (cRow a), av (cRow b)] [] (Eq2 (bv (rowLess a b)) []) := by
  have hLB : LB = 1099511627776 := rfl
  refine C_goS (nt := 59) (rs := [.tmp 4]) hm Tryz.func155 rfl rfl rfl rfl rfl (fun hl he => ?_)
  simp -implicitDefEqProofs only [go_sem, Z1, Z2, Z3, Z4] at hl ⊢
  rcases Classical.em (a.name = b.name) with h1 | h1
  · have k1 := eq_true h1
    simp -implicitDefEqProofs only [go_sem, Z1, Z2, Z3, Z4, k1]
    rcases Classical.em (a.args.length = b.args.length) with h2 | h2
    · have k2 := eq_true h2
      simp -implicitDefEqProofs only [go_sem, Z1, Z2, Z3, Z4, k2]
      refine loop_go1 hm (fun (i : Nat) =>  i ≤ a.args.length ∧ ratsLess a.args b.args = ratsLess (a.args.drop i) (b.args.drop i)) (fun (i : Nat) =>  ⟨mkS 59 .any [(2, .ptr 0 0), (3, .ptr 1 0), (5, iv i)], [some (.box (pvs (cRow a))), some (.box (pvs (cRow b)))]⟩) (fun (i : Nat) =>  a.args.length - i) (0) ?_ (weakS [some 0, some 1] ?_ ?_ rfl rfl) ?_
      rotate_left
      · simp -implicitDefEqProofs only [go_sem, Z1, Z2, Z3, Z4]
      · simp -implicitDefEqProofs only [go_sem, Z1, Z2, Z3, Z4]
      rotate_left
      · simp
      · rintro i ⟨hi, hg⟩
        rcases Classical.em (i < a.args.length) with h3 | h3
        · have h4 : i < b.args.length := by omega
          rw [ratsLess_drop h3 h4] at hg
          simp -implicitDefEqProofs only [go_sem, Z1, Z2, Z3, Z4, h3, h4]
          refine atPairN (by kernel_rfl) (a := a.args[i].N) (b := a.args[i].D) (c := b.args[i].N) (e := b.args[i].D) (by simp -implicitDefEqProofs only [go_sem, Z1, Z2, Z3, Z4]) (by simp -implicitDefEqProofs only [go_sem, Z1, Z2, Z3, Z4]) ?_
          rw [eqPair_rat]
          rcases Classical.em (a.args[i] = b.args[i]) with h5 | h5
          · have k5 := eq_true h5
            rw [if_pos h5] at hg
            simp -implicitDefEqProofs only [go_sem, Z1, Z2, Z3, Z4, k5]
            with_reducible refine ind_andM (by kernel_rfl) ?_
            repeat (with_reducible apply And.intro; case left => omega)
            refine ⟨i + 1, ?_, ?_, weakS [some 0, some 1] ?_ ?_ rfl rfl⟩
            rotate_left
            · show _ < _
              omega
            · simp -implicitDefEqProofs only [go_sem, Z1, Z2, Z3, Z4]
            · simp -implicitDefEqProofs only [go_sem, Z1, Z2, Z3, Z4]
            exact ⟨by omega, hg⟩
          · rw [if_neg h5] at hg
            simp -implicitDefEqProofs only [go_sem, Z1, Z2, Z3, Z4, h5, h3, h4]
            with_reducible refine ind_andM (by kernel_rfl) ?_
            have hcall := c_spec_RatLess a.args[i] b.args[i]
            refine atCall [] hcall ?_ ?_ <;> simp -implicitDefEqProofs only [go_sem, Z1, Z2, Z3, Z4]
            with_reducible refine ind_andM (by kernel_rfl) ?_
            refine fin1' ?_
            simp -implicitDefEqProofs only [go_sem, Z1, Z2, Z3, Z4]
            all_goals (simp [rowLess, h1, h2, hg]; done)
        · rw [List.drop_of_length_le (by omega), List.drop_of_length_le (by omega)] at hg
          simp only [ratsLess] at hg
          simp -implicitDefEqProofs only [go_sem, Z1, Z2, Z3, Z4, h3]
          refine fin1' ?_
          simp -implicitDefEqProofs only [go_sem, Z1, Z2, Z3, Z4]
          all_goals (simp [rowLess, h1, h2, hg]; done)
    · simp -implicitDefEqProofs only [go_sem, Z1, Z2, Z3, Z4, h2]
      refine fin1' ?_
      simp -implicitDefEqProofs only [go_sem, Z1, Z2, Z3, Z4]
      all_goals (simp [rowLess, h1, h2]; done)
  · simp -implicitDefEqProofs only [go_sem, Z1, Z2, Z3, Z4, h1]
    refine fin1' ?_
    simp -implicitDefEqProofs only [go_sem, Z1, Z2, Z3, Z4]
    all_goals (simp [rowLess, h1, sLess]; done)
def prevRow (l : List Mod.Row) : Nat → Option Mod.Row
  | 0 => none
  | j + 1 => l[j]?
theorem modelWf_less (m : Mod.Model) : modelWf m = (decide (m.rows.length ≤ 40) && rowsLess none m.rows) := by
  unfold modelWf
  rw [rowsGo_eq _ none (by simp)]
theorem c_spec_l7Right (m : Mod.Model) : C E.P 91 [av (cModel m)] [] (Eq2 (bv (modelWf m)) []) := by
  have hmo := modelWf_less m
  have hLB : LB = 1099511627776 := rfl
  refine C_goS (nt := 41) (rs := [.tmp 2]) hm Tryz.func91 rfl rfl rfl rfl rfl (fun hl he => ?_)
  simp -implicitDefEqProofs only [go_sem, Z1, Z2, Z3, Z4] at hl ⊢
  refine loop_go1 hm (fun (i : Nat) =>  i ≤ m.rows.length ∧ rowsLess none m.rows = rowsLess (prevRow m.rows i) (m.rows.drop i)) (fun (i : Nat) =>  ⟨mkS 41 .any [(1, .ptr 0 0), (3, iv i)], [some (.box (pvs (cModel m)))]⟩) (fun (i : Nat) =>  m.rows.length - i) (0) ?_ (weakS [some 0] ?_ ?_ rfl rfl) ?_
  rotate_left
  · simp -implicitDefEqProofs only [go_sem, Z1, Z2, Z3, Z4]
  · simp -implicitDefEqProofs only [go_sem, Z1, Z2, Z3, Z4]
  rotate_left
  · simp [prevRow]
  · rintro i ⟨hi, hg⟩
    rcases Classical.em (i < m.rows.length) with h1 | h1
    · rw [List.drop_eq_getElem_cons h1] at hg
      simp only [rowsLess] at hg
      simp -implicitDefEqProofs only [go_sem, Z1, Z2, Z3, Z4, h1]
      have hcall := c_spec_l7Row m.rows[i]
      refine atCall [] hcall ?_ ?_ <;> simp -implicitDefEqProofs only [go_sem, Z1, Z2, Z3, Z4]
      cases h2 : rowWf m.rows[i]
      · have e : modelWf m = false := by rw [hmo, hg, h2]; simp
        simp -implicitDefEqProofs only [go_sem, Z1, Z2, Z3, Z4]
        with_reducible refine ind_andM (by kernel_rfl) ?_
        refine fin1' ?_
        simp -implicitDefEqProofs only [go_sem, Z1, Z2, Z3, Z4]
        all_goals (simp [e]; done)
      · rw [h2, Bool.true_and] at hg
        cases i with
        | zero =>
          simp only [prevRow, Bool.true_and] at hg
          simp -implicitDefEqProofs only [go_sem, Z1, Z2, Z3, Z4, Int.lt_irrefl]
          with_reducible refine ind_andM (by kernel_rfl) ?_
          repeat (with_reducible apply And.intro; case left => omega)
          refine ⟨0 + 1, ?_, ?_, weakS [some 0] ?_ ?_ rfl rfl⟩
          rotate_left
          · show _ < _
            omega
          · simp -implicitDefEqProofs only [go_sem, Z1, Z2, Z3, Z4]
            all_goals (simp [wks_rfl, *]; done)
          · simp -implicitDefEqProofs only [go_sem, Z1, Z2, Z3, Z4]
          refine ⟨by omega, ?_⟩
          rw [hg]
          simp [prevRow, h1]
        | succ j =>
          have hj : j < m.rows.length := by omega
          have e1 : ((j : Int) + 1 - 1) = (j : Int) := by omega
          have e2 : (0 : Int) < (j : Int) + 1 := by omega
          have et : ((j : Int) + 1).toNat = j + 1 := by omega
          have e3 : prevRow m.rows (j + 1) = some m.rows[j] := by simp [prevRow, hj]
          rw [e3] at hg
          simp only at hg
          simp -implicitDefEqProofs only [go_sem, Z1, Z2, Z3, Z4, e1, e2, et, hj, h1]
          repeat (with_reducible apply And.intro; case left => omega)
          have hcall := c_spec_l7Less m.rows[j] m.rows[j + 1]
          refine atCall [] hcall ?_ ?_ <;> simp -implicitDefEqProofs only [go_sem, Z1, Z2, Z3, Z4]
          with_reducible refine ind_andM (by kernel_rfl) ?_
          cases q4 : rowLess m.rows[j] m.rows[j + 1]
          · rw [q4, Bool.false_and] at hg
            have e : modelWf m = false := by rw [hmo, hg]; simp
            simp -implicitDefEqProofs only [go_sem, Z1, Z2, Z3, Z4]
            refine fin1' ?_
            simp -implicitDefEqProofs only [go_sem, Z1, Z2, Z3, Z4]
            all_goals (simp [e]; done)
          · rw [q4, Bool.true_and] at hg
            simp -implicitDefEqProofs only [go_sem, Z1, Z2, Z3, Z4]
            repeat (with_reducible apply And.intro; case left => omega)
            refine ⟨j + 1 + 1, ?_, ?_, weakS [some 0] ?_ ?_ rfl rfl⟩
            rotate_left
            · show _ < _
              omega
            · simp -implicitDefEqProofs only [go_sem, Z1, Z2, Z3, Z4]
            · simp -implicitDefEqProofs only [go_sem, Z1, Z2, Z3, Z4]
            refine ⟨by omega, ?_⟩
            rw [hg]
            simp [prevRow, h1]
    · rw [List.drop_of_length_le (by omega)] at hg
      simp only [rowsLess] at hg
      have e : modelWf m = decide ((m.rows.length : Int) ≤ 40) := by rw [hmo, hg, Bool.and_true]; exact decide_eq_decide.2 (by omega)
      simp -implicitDefEqProofs only [go_sem, Z1, Z2, Z3, Z4, h1]
      refine fin1' ?_
      simp -implicitDefEqProofs only [go_sem, Z1, Z2, Z3, Z4]
      all_goals (simp [e]; done)
theorem suitsAll_drop {xs : List Mod.Rat} {ns : List Int} {i : Nat} (h : i < xs.length) (h' : i < ns.length) : suitsAll (xs.drop i) (ns.drop i) = (suits xs[i] ns[i] && suitsAll (xs.drop (i + 1)) (ns.drop (i + 1))) := by
  rw [List.drop_eq_getElem_cons h, List.drop_eq_getElem_cons h', suitsAll]
theorem ratsOk_get {xs : List Mod.Rat} (h : ratsOk xs = true) {i : Nat} (hi : i < xs.length) : ratOk xs[i] = true := List.all_eq_true.1 h _ (List.getElem_mem hi)
theorem rowWf_val {r : Mod.Row} (h : rowWf r = true) : ratOk r.val = true := by
  simp only [rowWf, Bool.and_eq_true] at h
  exact h.2.2.1
theorem rowWf_len {r : Mod.Row} (h : rowWf r = true) : r.args.length ≤ 2 := by
  simp only [rowWf, Bool.and_eq_true, decide_eq_true_eq] at h
  exact h.2.1
theorem rowSuits_none {s : Sig} {r : Mod.Row} (h : symbol s r.name = none) : rowSuits s r = false := by simp [rowSuits, h]
theorem rowSuits_some {s : Sig} {r : Mod.Row} {x : Sym} (h : symbol s r.name = some x) : rowSuits s r = (decide (x.args.length = r.args.length) && (suits r.val x.sort && suitsAll r.args x.args)) := by simp [rowSuits, h]
theorem c_spec_ModelOk (s : Sig) (m : Mod.Model) : C E.P 45 [av (cSig s), av (cModel m)] [] (Eq2 (bv (modelOk s m)) []) := by
  have hLB : LB = 1099511627776 := rfl
  refine C_goS (nt := 85) (rs := [.tmp 4]) hm Tryz.func45 rfl rfl rfl rfl rfl (fun hl he => ?_)
  simp -implicitDefEqProofs only [go_sem, Z1, Z2, Z3, Z4] at hl ⊢
  have hcall := c_spec_SigOk s
  refine atCall [] hcall ?_ ?_ <;> simp -implicitDefEqProofs only [go_sem, Z1, Z2, Z3, Z4]
  cases h1 : sigOk s
  · simp -implicitDefEqProofs only [go_sem, Z1, Z2, Z3, Z4]
    refine fin1' ?_
    simp -implicitDefEqProofs only [go_sem, Z1, Z2, Z3, Z4]
    all_goals (simp [modelOk, h1]; done)
  · simp -implicitDefEqProofs only [go_sem, Z1, Z2, Z3, Z4]
    have hcall := c_spec_l7Right m
    refine atCall [] hcall ?_ ?_ <;> simp -implicitDefEqProofs only [go_sem, Z1, Z2, Z3, Z4]
    cases h2 : modelWf m
    · simp -implicitDefEqProofs only [go_sem, Z1, Z2, Z3, Z4]
      refine fin1' ?_
      simp -implicitDefEqProofs only [go_sem, Z1, Z2, Z3, Z4]
      all_goals (simp [modelOk, h1, h2]; done)
    · have hwf := (modelWf_pair h2).2.1
      have hmo : modelOk s m = m.rows.all (rowSuits s) := by simp [modelOk, h1, h2]
      simp -implicitDefEqProofs only [go_sem, Z1, Z2, Z3, Z4]
      refine loop_go1 hm (fun (i : Nat) =>  i ≤ m.rows.length ∧ m.rows.all (rowSuits s) = (m.rows.drop i).all (rowSuits s)) (fun (i : Nat) =>  ⟨mkS 85 .any [(2, .ptr 0 0), (3, .ptr 1 0), (5, iv i)], [some (.box (pvs (cSig s))), some (.box (pvs (cModel m)))]⟩) (fun (i : Nat) =>  m.rows.length - i) (0) ?_ (weakS [some 0, some 1] ?_ ?_ rfl rfl) ?_
      rotate_left
      · simp -implicitDefEqProofs only [go_sem, Z1, Z2, Z3, Z4]
      · simp -implicitDefEqProofs only [go_sem, Z1, Z2, Z3, Z4]
      rotate_left
      · simp
      · rintro i ⟨hi, hg⟩
        rcases Classical.em (i < m.rows.length) with h3 | h3
        · have hw := hwf m.rows[i] (List.getElem_mem h3)
          have hra := rowWf_args hw
          have hrv := rowWf_val hw
          have hrl := rowWf_len hw
          rw [List.drop_eq_getElem_cons h3, List.all_cons] at hg
          simp -implicitDefEqProofs only [go_sem, Z1, Z2, Z3, Z4, h3]
          have hcall := c_spec_l4Find s m.rows[i].name
          refine atCall [] hcall ?_ ?_ <;> simp -implicitDefEqProofs only [go_sem, Z1, Z2, Z3, Z4, h3]
          with_reducible refine ind_andM (by kernel_rfl) ?_
          cases hx : symbol s m.rows[i].name with
          | none =>
            rw [rowSuits_none hx, Bool.false_and] at hg
            have e : modelOk s m = false := by rw [hmo, hg]
            simp -implicitDefEqProofs only [go_sem, Z1, Z2, Z3, Z4, Option.isSome_none, Option.getD_none, h3]
            with_reducible refine ind_andM (by kernel_rfl) ?_
            refine fin1' ?_
            simp -implicitDefEqProofs only [go_sem, Z1, Z2, Z3, Z4]
            all_goals (simp [e]; done)
          | some x =>
            rw [rowSuits_some hx] at hg
            rcases Classical.em (x.args.length = m.rows[i].args.length) with h4 | h4
            · have k4 := eq_true h4
              simp only [h4, decide_true, Bool.true_and] at hg
              simp -implicitDefEqProofs only [go_sem, Z1, Z2, Z3, Z4, Option.isSome_some, Option.getD_some, k4, h3]
              have hcall := c_spec_l7Fit m.rows[i].val x.sort
              refine atCall [] hcall ?_ ?_ <;> simp -implicitDefEqProofs only [go_sem, Z1, Z2, Z3, Z4]
              with_reducible refine ind_andM (by kernel_rfl) ?_
              simp only [hrv, Bool.true_and]
              cases h5 : suits m.rows[i].val x.sort
              · rw [h5, Bool.false_and, Bool.false_and] at hg
                have e : modelOk s m = false := by rw [hmo, hg]
                simp -implicitDefEqProofs only [go_sem, Z1, Z2, Z3, Z4]
                refine fin1' ?_
                simp -implicitDefEqProofs only [go_sem, Z1, Z2, Z3, Z4]
                all_goals (simp [e]; done)
              · rw [h5, Bool.true_and] at hg
                simp -implicitDefEqProofs only [go_sem, Z1, Z2, Z3, Z4]
                refine loop_go1 hm (fun (k : Nat) =>  k ≤ x.args.length ∧ suitsAll m.rows[i].args x.args = suitsAll (m.rows[i].args.drop k) (x.args.drop k)) (fun (k : Nat) =>  ⟨mkS 85 .any [(2, .ptr 0 0), (3, .ptr 1 0), (5, iv i), (6, .ptr 2 0), (8, iv k)], [some (.box (pvs (cSig s))), some (.box (pvs (cModel m))), some (.box (pvs (cSym x)))]⟩) (fun (k : Nat) =>  x.args.length - k) (0) ?_ (weakS [some 0, some 1, some 2] ?_ ?_ rfl rfl) ?_
                rotate_left
                · simp -implicitDefEqProofs only [go_sem, Z1, Z2, Z3, Z4]
                · simp -implicitDefEqProofs only [go_sem, Z1, Z2, Z3, Z4]
                rotate_left
                · simp
                · rintro k ⟨hk, hj⟩
                  rcases Classical.em (k < x.args.length) with h6 | h6
                  · have h7 : k < m.rows[i].args.length := by omega
                    rw [suitsAll_drop h7 h6] at hj
                    have hr := ratsOk_get hra h7
                    simp -implicitDefEqProofs only [go_sem, Z1, Z2, Z3, Z4, h6, h3, h7]
                    have hcall := c_spec_l7Fit m.rows[i].args[k] x.args[k]
                    refine atCall [] hcall ?_ ?_ <;> simp -implicitDefEqProofs only [go_sem, Z1, Z2, Z3, Z4]
                    with_reducible refine ind_andM (by kernel_rfl) ?_
                    simp only [hr, Bool.true_and]
                    cases h8 : suits m.rows[i].args[k] x.args[k]
                    · rw [h8, Bool.false_and] at hj
                      rw [hj, Bool.false_and] at hg
                      have e : modelOk s m = false := by rw [hmo, hg]
                      simp -implicitDefEqProofs only [go_sem, Z1, Z2, Z3, Z4]
                      refine fin1' ?_
                      simp -implicitDefEqProofs only [go_sem, Z1, Z2, Z3, Z4]
                      all_goals (simp [e]; done)
                    · rw [h8, Bool.true_and] at hj
                      simp -implicitDefEqProofs only [go_sem, Z1, Z2, Z3, Z4]
                      repeat (with_reducible apply And.intro; case left => omega)
                      refine ⟨k + 1, ?_, ?_, weakS [some 0, some 1, some 2] ?_ ?_ rfl rfl⟩
                      rotate_left
                      · show _ < _
                        omega
                      · simp -implicitDefEqProofs only [go_sem, Z1, Z2, Z3, Z4]
                      · simp -implicitDefEqProofs only [go_sem, Z1, Z2, Z3, Z4]
                      exact ⟨by omega, hj⟩
                  · rw [List.drop_of_length_le (by omega), List.drop_of_length_le (by omega)] at hj
                    simp only [suitsAll] at hj
                    rw [hj, Bool.true_and] at hg
                    simp -implicitDefEqProofs only [go_sem, Z1, Z2, Z3, Z4, h6]
                    repeat (with_reducible apply And.intro; case left => omega)
                    refine ⟨i + 1, ?_, ?_, weakS [some 0, some 1] ?_ ?_ rfl rfl⟩
                    rotate_left
                    · show _ < _
                      omega
                    · simp -implicitDefEqProofs only [go_sem, Z1, Z2, Z3, Z4]
                    · simp -implicitDefEqProofs only [go_sem, Z1, Z2, Z3, Z4]
                    exact ⟨by omega, hg⟩
            · simp only [h4, decide_false, Bool.false_and] at hg
              have e : modelOk s m = false := by rw [hmo, hg]
              simp -implicitDefEqProofs only [go_sem, Z1, Z2, Z3, Z4, Option.isSome_some, Option.getD_some, h4, h3]
              with_reducible refine ind_andM (by kernel_rfl) ?_
              refine fin1' ?_
              simp -implicitDefEqProofs only [go_sem, Z1, Z2, Z3, Z4]
              all_goals (simp [e]; done)
        · rw [List.drop_of_length_le (by omega), List.all_nil] at hg
          simp -implicitDefEqProofs only [go_sem, Z1, Z2, Z3, Z4, h3]
          refine fin1' ?_
          simp -implicitDefEqProofs only [go_sem, Z1, Z2, Z3, Z4]
          all_goals (simp [hmo, hg]; done)
theorem lookup_drop {rows : List Mod.Row} {i : Nat} (h : i < rows.length) (n : Str) (xs : List Mod.Rat) : lookup (rows.drop i) n xs = if rows[i].name = n ∧ rows[i].args = xs then rows[i].val else lookup (rows.drop (i + 1)) n xs := by
  rw [List.drop_eq_getElem_cons h]
  unfold lookup
  rw [List.find?_cons]
  rcases Classical.em (rows[i].name = n ∧ rows[i].args = xs) with hc | hc
  · simp [hc]
  · simp [hc]
theorem c_spec_l7Look (m : Mod.Model) (n : Str) (xs : List Mod.Rat) : C E.P 124 [av (cModel m), sv n, lv (rowsRat xs)] [] (Eq2 (av (cRat (lookup m.rows n xs))) []) := by
  have hLB : LB = 1099511627776 := rfl
  refine C_goS (nt := 40) (rs := [.cell 6 141]) hm Tryz.func124 rfl rfl rfl rfl rfl (fun hl he => ?_)
  simp -implicitDefEqProofs only [go_sem, Z1, Z2, Z3, Z4] at hl ⊢
  refine loop_go1 hm (fun (i : Nat) =>  i ≤ m.rows.length ∧ lookup m.rows n xs = lookup (m.rows.drop i) n xs) (fun (i : Nat) =>  ⟨mkS 40 .any [(1, sv n), (2, lv (rowsRat xs)), (3, .ptr 0 0), (6, .ptr 1 0), (7, iv i)], [some (.box (pvs (cModel m))), some (.box (pvs (cRat rat0)))]⟩) (fun (i : Nat) =>  m.rows.length - i) (0) ?_ (weakS [some 0, some 1] ?_ ?_ rfl rfl) ?_
  rotate_left
  · simp -implicitDefEqProofs only [go_sem, Z1, Z2, Z3, Z4]
  · simp -implicitDefEqProofs only [go_sem, Z1, Z2, Z3, Z4]
  rotate_left
  · simp
  · rintro i ⟨hi, hg⟩
    rcases Classical.em (i < m.rows.length) with h1 | h1
    · rw [lookup_drop h1] at hg
      rcases Classical.em (m.rows[i].name = n) with h2 | h2
      · have k2 := eq_true h2
        simp -implicitDefEqProofs only [go_sem, Z1, Z2, Z3, Z4, h1, k2]
        have hcall := c_spec_l7Rats m.rows[i].args xs
        refine atCall [] hcall ?_ ?_ <;> simp -implicitDefEqProofs only [go_sem, Z1, Z2, Z3, Z4]
        rcases Classical.em (m.rows[i].args = xs) with h3 | h3
        · have k3 := eq_true h3
          rw [if_pos ⟨h2, h3⟩] at hg
          simp -implicitDefEqProofs only [go_sem, Z1, Z2, Z3, Z4, k3, h1]
          refine fin1' ?_
          simp -implicitDefEqProofs only [go_sem, Z1, Z2, Z3, Z4]
          all_goals (simp [hg]; done)
        · rw [if_neg (fun hh => h3 hh.2)] at hg
          simp -implicitDefEqProofs only [go_sem, Z1, Z2, Z3, Z4, h3]
          repeat (with_reducible apply And.intro; case left => omega)
          refine ⟨i + 1, ?_, ?_, weakS [some 0, some 1] ?_ ?_ rfl rfl⟩
          rotate_left
          · show _ < _
            omega
          · simp -implicitDefEqProofs only [go_sem, Z1, Z2, Z3, Z4]
          · simp -implicitDefEqProofs only [go_sem, Z1, Z2, Z3, Z4]
          exact ⟨by omega, hg⟩
      · rw [if_neg (fun hh => h2 hh.1)] at hg
        simp -implicitDefEqProofs only [go_sem, Z1, Z2, Z3, Z4, h1, h2]
        repeat (with_reducible apply And.intro; case left => omega)
        refine ⟨i + 1, ?_, ?_, weakS [some 0, some 1] ?_ ?_ rfl rfl⟩
        rotate_left
        · show _ < _
          omega
        · simp -implicitDefEqProofs only [go_sem, Z1, Z2, Z3, Z4]
        · simp -implicitDefEqProofs only [go_sem, Z1, Z2, Z3, Z4]
        exact ⟨by omega, hg⟩
    · rw [List.drop_of_length_le (by omega)] at hg
      have e : lookup m.rows n xs = ⟨0, 1⟩ := by rw [hg]; rfl
      simp -implicitDefEqProofs only [go_sem, Z1, Z2, Z3, Z4, h1]
      refine fin1' ?_
      simp -implicitDefEqProofs only [go_sem, Z1, Z2, Z3, Z4]
      all_goals (simp [e]; done)
theorem c_spec_l7Term1 (m : Mod.Model) (t : Term) (ih : ∀ k ∈ t.kids, C E.P 70 [av (cModel m), av (cT k)] [] (Eq2 (av (cRat (value m k))) [])) : C E.P 70 [av (cModel m), av (cT t)] [] (Eq2 (av (cRat (value m t))) []) := by
  have hLB : LB = 1099511627776 := rfl
  refine C_goS (nt := 30) (rs := [.cell 4 141]) hm Tryz.func70 rfl rfl rfl rfl rfl (fun hl he => ?_)
  simp -implicitDefEqProofs only [go_sem, Z1, Z2, Z3, Z4] at hl ⊢
  refine loop_go1 hm (fun (i : Nat) =>  i ≤ t.kids.length) (fun (i : Nat) =>  ⟨mkS 30 .any [(2, .ptr 0 0), (3, .ptr 1 0), (4, .ptr 2 0), (5, .acc 3), (6, iv i)], [some (.box (pvs (cModel m))), some (.box (pvs (cT t))), some (.box (pvs (cRat rat0))), some (.acc 141 (rowsRat (values m (t.kids.take i))))]⟩) (fun (i : Nat) =>  t.kids.length - i) (0) ?_ (weakS [some 0, some 1, some 2, some 3] ?_ ?_ rfl rfl) ?_
  rotate_left
  · simp -implicitDefEqProofs only [go_sem, Z1, Z2, Z3, Z4]
  · simp -implicitDefEqProofs only [go_sem, Z1, Z2, Z3, Z4]
    all_goals (simp [rat0, values, rowsRat])
  rotate_left
  · omega
  · rintro i hi
    have hv := values_len m (t.kids.take i)
    have hv2 : (t.kids.take i).length = i := by rw [List.length_take]; omega
    rcases Classical.em (i < t.kids.length) with h1 | h1
    · simp -implicitDefEqProofs only [go_sem, Z1, Z2, Z3, Z4, h1]
      have hc := ih t.kids[i] (List.getElem_mem h1)
      have hcall := hc 
      refine atCall [] hcall ?_ ?_ <;> simp -implicitDefEqProofs only [go_sem, Z1, Z2, Z3, Z4]
      repeat (first | with_reducible refine ind_andM (by kernel_rfl) ?_ | (with_reducible apply And.intro; case left => omega))
      refine ⟨i + 1, ?_, ?_, weakS [some 0, some 1, some 2, some 4] ?_ ?_ rfl rfl⟩
      rotate_left
      · show _ < _
        omega
      · simp -implicitDefEqProofs only [go_sem, Z1, Z2, Z3, Z4]
      · simp -implicitDefEqProofs only [go_sem, Z1, Z2, Z3, Z4]
        all_goals (exact rowsVal_snoc h1)
      exact h1
    · have et : t.kids.take i = t.kids := List.take_of_length_le (by omega)
      simp -implicitDefEqProofs only [go_sem, Z1, Z2, Z3, Z4, h1, et]
      have hcall := c_spec_l7Look m t.name (values m t.kids)
      refine atLook [] [3] hcall rfl ?_ ?_ ?_
      · (simp -implicitDefEqProofs only [go_sem, Z1, Z2, Z3, Z4]; repeat' (first | exact Vws.nil | apply Vws.cons | exact Vw.same (by first | rfl | simp -implicitDefEqProofs only [go_sem, Z1, Z2, Z3, Z4]) | exact Vw.acc rfl rfl | exact Vw.nil | apply Vw.agg | apply Vw.fn | refine Vw.box rfl rfl ?_))
      all_goals simp -implicitDefEqProofs only [go_sem, Z1, Z2, Z3, Z4]
      refine fin1' ?_
      simp -implicitDefEqProofs only [go_sem, Z1, Z2, Z3, Z4]
      all_goals (simp [value_eq]; done)
theorem c_spec_l7Term (m : Mod.Model) : ∀ t, C E.P 70 [av (cModel m), av (cT t)] [] (Eq2 (av (cRat (value m t))) []) :=
  Term.ind fun n ks ih => c_spec_l7Term1 m (.mk n ks) ih
def sumS (m : Mod.Model) : List Term → List Int → Mod.Rat → Mod.Rat × Bool
  | t :: ts, n :: ns, sum => if (ratMul (whole n) (value m t)).2 then (if (ratAdd sum (ratMul (whole n) (value m t)).1).2 then sumS m ts ns (ratAdd sum (ratMul (whole n) (value m t)).1).1 else ((ratAdd sum (ratMul (whole n) (value m t)).1).1, false)) else (sum, false)
  | _, _, sum => (sum, true)
theorem sumS_eq (m : Mod.Model) : ∀ (ts : List Term) (ns : List Int) (sum : Mod.Rat), sumGo m ts ns sum = if (sumS m ts ns sum).2 then some (sumS m ts ns sum).1 else none
  | [], _, sum => by simp [sumGo, sumS]
  | _ :: _, [], sum => by simp [sumGo, sumS]
  | t :: ts, n :: ns, sum => by
    simp only [sumGo, sumS, plus]
    rcases Classical.em ((ratMul (whole n) (value m t)).2 = true) with h1 | h1
    · simp only [h1, if_true]
      rcases Classical.em ((ratAdd sum (ratMul (whole n) (value m t)).1).2 = true) with h2 | h2
      · simp only [h2, if_true]
        exact sumS_eq m ts ns _
      · simp only [h2, Bool.false_eq_true, if_false]
    · simp only [h1, Bool.false_eq_true, if_false]
theorem sumS_drop {m : Mod.Model} {ts : List Term} {ns : List Int} {i : Nat} (h : i < ts.length) (h' : i < ns.length) (sum : Mod.Rat) :
    sumS m (ts.drop i) (ns.drop i) sum = if (ratMul (whole ns[i]) (value m ts[i])).2 then (if (ratAdd sum (ratMul (whole ns[i]) (value m ts[i])).1).2 then sumS m (ts.drop (i + 1)) (ns.drop (i + 1)) (ratAdd sum (ratMul (whole ns[i]) (value m ts[i])).1).1 else ((ratAdd sum (ratMul (whole ns[i]) (value m ts[i])).1).1, false)) else (sum, false) := by
  rw [List.drop_eq_getElem_cons h, List.drop_eq_getElem_cons h', sumS]
theorem sumS_end {m : Mod.Model} {ts : List Term} {ns : List Int} {i : Nat} (h : ts.length ≤ i) (sum : Mod.Rat) : sumS m (ts.drop i) (ns.drop i) sum = (sum, true) := by
  rw [List.drop_of_length_le h, sumS]
  simp
theorem c_spec_l7Sum (m : Mod.Model) (a : Atom) (hl1 : a.times.length = a.nums.length) : C E.P 71 [av (cModel m), av (cAtom a)] [] (Eq2 (.tup [av (cRat (sumS m a.nums a.times (whole 0)).1), bv (sumS m a.nums a.times (whole 0)).2]) []) := by
  have hLB : LB = 1099511627776 := rfl
  refine C_goS (nt := 48) (rs := [.cell 4 141, .tmp 5]) hm Tryz.func71 rfl rfl rfl rfl rfl (fun hl he => ?_)
  simp -implicitDefEqProofs only [go_sem, Z1, Z2, Z3, Z4] at hl ⊢
  refine loop_go2 hm (fun (i : Nat) (sum : Mod.Rat) =>  i ≤ a.nums.length ∧ sumS m a.nums a.times (whole 0) = sumS m (a.nums.drop i) (a.times.drop i) sum) (fun (i : Nat) (sum : Mod.Rat) =>  ⟨mkS 48 .any [(2, .ptr 0 0), (3, .ptr 1 0), (4, .ptr 2 0), (6, .ptr 3 0), (7, iv i)], [some (.box (pvs (cModel m))), some (.box (pvs (cAtom a))), some (.box (pvs (cRat rat0))), some (.box (pvs (cRat sum)))]⟩) (fun (i : Nat) (sum : Mod.Rat) =>  a.nums.length - i) (0) (whole 0) ?_ (weakS [some 0, some 1, some 2, some 3] ?_ ?_ rfl rfl) ?_
  rotate_left
  · simp -implicitDefEqProofs only [go_sem, Z1, Z2, Z3, Z4]
  · simp -implicitDefEqProofs only [go_sem, Z1, Z2, Z3, Z4]
    all_goals (simp [rat0, whole])
  rotate_left
  · simp
  · rintro i sum ⟨hi, hg⟩
    rcases Classical.em (i < a.nums.length) with h1 | h1
    · have h2 : i < a.times.length := by omega
      rw [sumS_drop h1 h2] at hg
      simp -implicitDefEqProofs only [go_sem, Z1, Z2, Z3, Z4, h1, h2]
      have hcall := c_spec_l7Term m a.nums[i]
      refine atCall [] hcall ?_ ?_ <;> simp -implicitDefEqProofs only [go_sem, Z1, Z2, Z3, Z4]
      have hc := c_spec_RatMul (whole a.times[i]) (value m a.nums[i])
      simp only [whole] at hc
      have hcall := hc 
      refine atCall [] hcall ?_ ?_ <;> simp -implicitDefEqProofs only [go_sem, Z1, Z2, Z3, Z4]
      with_reducible refine ind_andM (by kernel_rfl) ?_
      have ew : (⟨a.times[i], 1⟩ : Mod.Rat) = whole a.times[i] := rfl
      rw [ew]
      cases h3 : (ratMul (whole a.times[i]) (value m a.nums[i])).2
      · rw [h3] at hg
        simp only [Bool.false_eq_true, if_false] at hg
        simp -implicitDefEqProofs only [go_sem, Z1, Z2, Z3, Z4]
        refine fin1' ?_
        simp -implicitDefEqProofs only [go_sem, Z1, Z2, Z3, Z4]
        all_goals (simp [hg]; done)
      · rw [h3] at hg
        simp only [if_true] at hg
        simp -implicitDefEqProofs only [go_sem, Z1, Z2, Z3, Z4]
        have hcall := c_spec_RatAdd sum (ratMul (whole a.times[i]) (value m a.nums[i])).1
        refine atCall [] hcall ?_ ?_ <;> simp -implicitDefEqProofs only [go_sem, Z1, Z2, Z3, Z4]
        cases h4 : (ratAdd sum (ratMul (whole a.times[i]) (value m a.nums[i])).1).2
        · rw [h4] at hg
          simp only [Bool.false_eq_true, if_false] at hg
          simp -implicitDefEqProofs only [go_sem, Z1, Z2, Z3, Z4]
          refine fin1' ?_
          simp -implicitDefEqProofs only [go_sem, Z1, Z2, Z3, Z4]
          all_goals (simp [hg]; done)
        · rw [h4] at hg
          simp only [if_true] at hg
          simp -implicitDefEqProofs only [go_sem, Z1, Z2, Z3, Z4]
          repeat (with_reducible apply And.intro; case left => omega)
          refine ⟨i + 1, (ratAdd sum (ratMul (whole a.times[i]) (value m a.nums[i])).1).1, ?_, ?_, weakS [some 0, some 1, some 2, some 3] ?_ ?_ rfl rfl⟩
          rotate_left
          · show _ < _
            omega
          · simp -implicitDefEqProofs only [go_sem, Z1, Z2, Z3, Z4]
          · simp -implicitDefEqProofs only [go_sem, Z1, Z2, Z3, Z4]
          exact ⟨by omega, hg⟩
    · rw [sumS_end (by omega)] at hg
      simp -implicitDefEqProofs only [go_sem, Z1, Z2, Z3, Z4, h1]
      refine fin1' ?_
      simp -implicitDefEqProofs only [go_sem, Z1, Z2, Z3, Z4]
      all_goals (simp [hg]; done)
theorem modelLit_no {s : Sig} {m : Mod.Model} {l : LitD} (h : modelOk s m = false ∨ atomOk s l.atom = false) : modelLit s m l = none := by
  unfold modelLit
  rcases h with h | h <;> simp [h]
theorem modelLit_yes {s : Sig} {m : Mod.Model} {l : LitD} (h : modelOk s m = true) (h2 : atomOk s l.atom = true) : modelLit s m l = (atomIs m l.atom).map fun b => b != l.no := by
  unfold modelLit
  simp [h, h2]
theorem atomOk_wf {s : Sig} {a : Atom} (h : atomOk s a = true) : atomWf a = true := by
  simp only [atomOk, Bool.and_eq_true] at h
  exact h.2.1
theorem c_spec_ModelLit (s : Sig) (m : Mod.Model) (l : LitD) : C E.P 32 [av (cSig s), av (cModel m), av (cLit l)] [] (Eq2 (.tup [bv ((modelLit s m l).getD false), bv (modelLit s m l).isSome]) []) := by
  have hLB : LB = 1099511627776 := rfl
  refine C_goS (nt := 70) (rs := [.tmp 6, .tmp 7]) hm Tryz.func32 rfl rfl rfl rfl rfl (fun hl he => ?_)
  simp -implicitDefEqProofs only [go_sem, Z1, Z2, Z3, Z4] at hl ⊢
  have hcall := c_spec_ModelOk s m
  refine atCall [] hcall ?_ ?_ <;> simp -implicitDefEqProofs only [go_sem, Z1, Z2, Z3, Z4]
  cases h1 : modelOk s m
  · have e := modelLit_no (l := l) (.inl h1)
    simp -implicitDefEqProofs only [go_sem, Z1, Z2, Z3, Z4]
    refine fin1' ?_
    simp -implicitDefEqProofs only [go_sem, Z1, Z2, Z3, Z4]
    all_goals (simp [e]; done)
  · simp -implicitDefEqProofs only [go_sem, Z1, Z2, Z3, Z4]
    have hcall := c_spec_AtomOk s l.atom
    refine atCall [] hcall ?_ ?_ <;> simp -implicitDefEqProofs only [go_sem, Z1, Z2, Z3, Z4]
    cases h2 : atomOk s l.atom
    · have e := modelLit_no (m := m) (.inr h2)
      simp -implicitDefEqProofs only [go_sem, Z1, Z2, Z3, Z4]
      refine fin1' ?_
      simp -implicitDefEqProofs only [go_sem, Z1, Z2, Z3, Z4]
      all_goals (simp [e]; done)
    · have e := modelLit_yes h1 h2
      have hwf := atomOk_wf h2
      rcases Classical.em (l.atom.kind = 1) with h3 | h3
      · have k3 := eq_true h3
        have e2 : atomIs m l.atom = some (decide (value m l.atom.A = value m l.atom.B)) := by unfold atomIs; rw [if_pos h3]
        rw [e2] at e
        simp -implicitDefEqProofs only [go_sem, Z1, Z2, Z3, Z4, k3]
        have hcall := c_spec_l7Term m l.atom.A
        refine atCall [] hcall ?_ ?_ <;> simp -implicitDefEqProofs only [go_sem, Z1, Z2, Z3, Z4]
        have hcall := c_spec_l7Term m l.atom.B
        refine atCall [] hcall ?_ ?_ <;> simp -implicitDefEqProofs only [go_sem, Z1, Z2, Z3, Z4]
        refine atPair (by kernel_rfl) (a := (value m l.atom.A).N) (b := (value m l.atom.A).D) (c := (value m l.atom.B).N) (e := (value m l.atom.B).D) (by simp -implicitDefEqProofs only [go_sem, Z1, Z2, Z3, Z4]) (by simp -implicitDefEqProofs only [go_sem, Z1, Z2, Z3, Z4]) ?_
        rw [eqPair_rat]
        simp -implicitDefEqProofs only [go_sem, Z1, Z2, Z3, Z4]
        with_reducible refine ind_andM (by kernel_rfl) ?_
        refine fin1' ?_
        simp -implicitDefEqProofs only [go_sem, Z1, Z2, Z3, Z4]
        rw [e]
        exact ⟨rfl, rfl⟩
      · have k : l.atom.kind = 2 := (atomWf_kind hwf).resolve_left h3
        obtain ⟨_, _, _, hlen, hb, _⟩ := atomWf_sum hwf k
        have e2 : atomIs m l.atom = (sumGo m l.atom.nums l.atom.times (whole 0)).map fun x => below x l.atom.bound l.atom.strict := by unfold atomIs; rw [if_neg h3]
        have e3 := sumS_eq m l.atom.nums l.atom.times (whole 0)
        simp -implicitDefEqProofs only [go_sem, Z1, Z2, Z3, Z4, h3]
        have hcall := c_spec_l7Sum m l.atom hlen
        refine atCall [] hcall ?_ ?_ <;> simp -implicitDefEqProofs only [go_sem, Z1, Z2, Z3, Z4]
        cases h4 : (sumS m l.atom.nums l.atom.times (whole 0)).2
        · rw [h4] at e3
          simp only [Bool.false_eq_true, if_false] at e3
          rw [e2, e3] at e
          simp -implicitDefEqProofs only [go_sem, Z1, Z2, Z3, Z4]
          refine fin1' ?_
          simp -implicitDefEqProofs only [go_sem, Z1, Z2, Z3, Z4]
          all_goals (simp [e]; done)
        · rw [h4] at e3
          simp only [if_true] at e3
          have hs := sumGo_ok (whole_ok (by omega) (by omega)) e3
          have e4 := below_eq hs (n := l.atom.bound) (by omega) (by omega) l.atom.strict
          rw [e2, e3] at e
          simp only [Option.map_some, e4] at e
          generalize (sumS m l.atom.nums l.atom.times (whole 0)).1 = sum at *
          have hc := c_spec_RatLess sum (whole l.atom.bound)
          simp only [whole] at hc
          simp -implicitDefEqProofs only [go_sem, Z1, Z2, Z3, Z4]
          have hcall := hc 
          refine atCall [] hcall ?_ ?_ <;> simp -implicitDefEqProofs only [go_sem, Z1, Z2, Z3, Z4]
          have ew : (⟨l.atom.bound, 1⟩ : Mod.Rat) = whole l.atom.bound := rfl
          rw [ew]
          cases h5 : ratLess sum (whole l.atom.bound)
          · cases h6 : l.atom.strict
            · simp -implicitDefEqProofs only [go_sem, Z1, Z2, Z3, Z4, h6]
              refine atPair (by kernel_rfl) (a := sum.N) (b := sum.D) (c := l.atom.bound) (e := 1) (by simp -implicitDefEqProofs only [go_sem, Z1, Z2, Z3, Z4]) (by simp -implicitDefEqProofs only [go_sem, Z1, Z2, Z3, Z4]) ?_
              have e5 : eqPair sum.N sum.D l.atom.bound 1 = decide (sum = whole l.atom.bound) := eqPair_rat sum (whole l.atom.bound)
              rw [e5]
              simp -implicitDefEqProofs only [go_sem, Z1, Z2, Z3, Z4]
              with_reducible refine ind_andM (by kernel_rfl) ?_
              refine fin1' ?_
              simp -implicitDefEqProofs only [go_sem, Z1, Z2, Z3, Z4]
              rw [e, h5, h6]
              exact ⟨rfl, rfl⟩
            · simp -implicitDefEqProofs only [go_sem, Z1, Z2, Z3, Z4, h6]
              with_reducible refine ind_andM (by kernel_rfl) ?_
              refine fin1' ?_
              simp -implicitDefEqProofs only [go_sem, Z1, Z2, Z3, Z4]
              all_goals (simp [e, h5, h6]; done)
          · simp -implicitDefEqProofs only [go_sem, Z1, Z2, Z3, Z4]
            with_reducible refine ind_andM (by kernel_rfl) ?_
            refine fin1' ?_
            simp -implicitDefEqProofs only [go_sem, Z1, Z2, Z3, Z4]
            all_goals (simp [e, h5]; done)
end Go.Proofs.YthpjgpbcfdfmoaaGreat
