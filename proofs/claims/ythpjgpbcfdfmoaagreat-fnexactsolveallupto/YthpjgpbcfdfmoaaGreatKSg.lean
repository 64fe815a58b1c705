/-
  Arguments measured, copied and compared with themselves: models and formulas. A step towards the exact laws.
-/
import Derived.Test.YthpjgpbcfdfmoaaGreatKSX
set_option linter.unusedVariables false
set_option linter.unusedSimpArgs false
namespace Go.Proofs.YthpjgpbcfdfmoaaGreat
open Go.Eng Go.Mod
open Int renaming reduceEq → Z1, reduceLT → Z2, reduceLE → Z3, reduceToNat → Z4
set_option maxRecDepth 100000
set_option maxHeartbeats 400000
def szR (ns : List Mod.Rat) (l : Int) : Int := if l - ns.length < 0 then -1 else l - ns.length
theorem szR_shr (ns : List Mod.Rat) : Shr szR ns := by
  intro l h
  unfold szR
  split <;> omega
theorem c_laws_szRatS (ns : List Mod.Rat) (l : Int) (h0 : 0 ≤ l) (hl1 : l ≤ 1048576) : C E.P 117 [lv (rowsRat ns), iv l] [] (Eq2 (iv (szR ns l)) []) := by
  have hLB : LB = 1099511627776 := rfl
  refine C_goS (nt := 12) (rs := [.tmp 4]) hm Tryz.func117 rfl rfl rfl rfl rfl (fun hl he => ?_)
  simp -implicitDefEqProofs only [go_sem, Z1, Z2, Z3, Z4] at hl ⊢
  repeat (with_reducible apply And.intro; case left => omega)
  rcases Classical.em (l - ns.length < 0) with h | h
  · simp -implicitDefEqProofs only [go_sem, Z1, Z2, Z3, Z4, h]
    refine fin1' ?_
    simp -implicitDefEqProofs only [go_sem, Z1, Z2, Z3, Z4]
    all_goals (simp [szR, h]; done)
  · simp -implicitDefEqProofs only [go_sem, Z1, Z2, Z3, Z4, h]
    refine fin1' ?_
    simp -implicitDefEqProofs only [go_sem, Z1, Z2, Z3, Z4]
    all_goals (simp [szR, h]; done)
def szRow (t : Mod.Row) (l : Int) : Int := chn [szN t.name.length, szR t.args] l
theorem szRow_chn (t : Mod.Row) (l : Int) : szRow t l = chn [szN t.name.length, szR t.args] l := rfl
theorem szRow_shr (t : Mod.Row) : Shr szRow t := chn_shr (by
  intro f hf
  simp only [List.mem_cons, List.not_mem_nil, or_false] at hf
  rcases hf with rfl | rfl
  · exact szN_shl t.name.length
  · exact (szR_shr t.args).shl)
theorem c_laws_szRow (t : Mod.Row) (l : Int) (h0 : 0 ≤ l) (hl1 : l ≤ 1048576) : C E.P 63 [av (cRow t), iv l] [] (Eq2 (iv (szRow t l)) []) := by
  have hLB : LB = 1099511627776 := rfl
  refine C_goS (nt := 19) (rs := [.tmp 4]) hm Tryz.func63 rfl rfl rfl rfl rfl (fun hl he => ?_)
  simp -implicitDefEqProofs only [go_sem, Z1, Z2, Z3, Z4] at hl ⊢
  rw [szRow_chn]
  repeat (with_reducible apply And.intro; case left => omega)
  have s0 : l - (t.name.length : Int) ≤ l := by omega
  generalize hr0 : l - (t.name.length : Int) = r0 at s0 ⊢
  rcases Classical.em (r0 < 0) with h0 | h0
  · simp -implicitDefEqProofs only [go_sem, Z1, Z2, Z3, Z4, h0]
    refine fin1' ?_
    simp -implicitDefEqProofs only [go_sem, Z1, Z2, Z3, Z4]
    simp [chn, szGo, szN, hr0, h0]
  · simp -implicitDefEqProofs only [go_sem, Z1, Z2, Z3, Z4, h0]
    have hcall := c_laws_szRatS t.args r0 (by omega) (by omega)
    refine atCall [] hcall ?_ ?_ <;> simp -implicitDefEqProofs only [go_sem, Z1, Z2, Z3, Z4]
    have s1 := ((szR_shr t.args).shl) r0 (by omega)
    generalize hr1 : (szR t.args r0) = r1 at s1 ⊢
    rcases Classical.em (r1 < 0) with h1 | h1
    · simp -implicitDefEqProofs only [go_sem, Z1, Z2, Z3, Z4, h1]
      refine fin1' ?_
      simp -implicitDefEqProofs only [go_sem, Z1, Z2, Z3, Z4]
      simp [chn, szGo, szN, hr0, h0, hr1, h1]
    · simp -implicitDefEqProofs only [go_sem, Z1, Z2, Z3, Z4, h1]
      refine fin1' ?_
      simp -implicitDefEqProofs only [go_sem, Z1, Z2, Z3, Z4]
      simp [chn, szGo, szN, hr0, h0, hr1, h1]
theorem c_laws_szRowS (ts : List Mod.Row) (l : Int) (h0 : 0 ≤ l) (hl1 : l ≤ 1048576) (sh : ∀ t ∈ ts, Shr szRow t) (c_laws_szRow : ∀ t ∈ ts, ∀ l, 0 ≤ l → l ≤ 1048576 → C E.P 63 [av (cRow t), iv l] [] (Eq2 (iv (szRow t l)) [])) :
    C E.P 28 [lv (rowsRow ts), iv l] [] (Eq2 (iv (szS szRow ts l)) []) := by
  have hLB : LB = 1099511627776 := rfl
  refine C_goS (nt := 27) (rs := [.tmp 4]) hm Tryz.func28 rfl rfl rfl rfl rfl (fun hl he => ?_)
  simp -implicitDefEqProofs only [go_sem, Z1, Z2, Z3, Z4] at hl ⊢
  repeat (with_reducible apply And.intro; case left => omega)
  rcases Classical.em (l - ts.length < 0) with h | h
  · simp -implicitDefEqProofs only [go_sem, Z1, Z2, Z3, Z4, h]
    refine fin1' ?_
    simp -implicitDefEqProofs only [go_sem, Z1, Z2, Z3, Z4]
    all_goals (simp [szS, h]; done)
  · simp -implicitDefEqProofs only [go_sem, Z1, Z2, Z3, Z4, h]
    refine loop_go2 hm (fun (i : Nat) (r : Int) =>  i ≤ ts.length ∧ 0 ≤ r ∧ r ≤ 1048576 ∧ szS szRow ts l = szGo szRow (ts.drop i) r) (fun (i : Nat) (r : Int) =>  ⟨mkS 27 .any [(0, lv (rowsRow ts)), (1, iv r), (5, iv i)], []⟩) (fun (i : Nat) (r : Int) =>  ts.length - i) (0) (l - ts.length) ?_ (weakS [] ?_ ?_ rfl rfl) ?_
    rotate_left
    · simp -implicitDefEqProofs only [go_sem, Z1, Z2, Z3, Z4]
    · simp -implicitDefEqProofs only [go_sem, Z1, Z2, Z3, Z4]
    rotate_left
    · exact ⟨by omega, by omega, by omega, by simp [szS, h]⟩
    · rintro i r ⟨hi, hr0, hr1, hr⟩
      rcases Classical.em (i < ts.length) with h1 | h1
      · have hs := sh ts[i] (List.getElem_mem h1) r hr0
        have hc := c_laws_szRow ts[i] (List.getElem_mem h1) r hr0 hr1
        simp -implicitDefEqProofs only [go_sem, Z1, Z2, Z3, Z4, h1]
        have hcall := hc 
        refine atCall [] hcall ?_ ?_ <;> simp -implicitDefEqProofs only [go_sem, Z1, Z2, Z3, Z4]
        rcases Classical.em (szRow ts[i] r < 0) with h2 | h2
        · simp -implicitDefEqProofs only [go_sem, Z1, Z2, Z3, Z4, h2]
          refine fin1' ?_
          simp -implicitDefEqProofs only [go_sem, Z1, Z2, Z3, Z4]
          rw [hr, szGo_drop h1, if_pos h2]
        · simp -implicitDefEqProofs only [go_sem, Z1, Z2, Z3, Z4, h2]
          repeat (with_reducible apply And.intro; case left => omega)
          refine ⟨i + 1, szRow ts[i] r, ?_, ?_, weakS [] ?_ ?_ rfl rfl⟩
          rotate_left
          · show _ < _
            omega
          · simp -implicitDefEqProofs only [go_sem, Z1, Z2, Z3, Z4]
          · simp -implicitDefEqProofs only [go_sem, Z1, Z2, Z3, Z4]
          exact ⟨by omega, by omega, by omega, by rw [hr, szGo_drop h1, if_neg h2]⟩
      · have : ts.length ≤ i := by omega
        simp -implicitDefEqProofs only [go_sem, Z1, Z2, Z3, Z4, h1]
        refine fin1' ?_
        simp -implicitDefEqProofs only [go_sem, Z1, Z2, Z3, Z4]
        rw [hr, List.drop_of_length_le this]
        rfl
def szModel (t : Mod.Model) (l : Int) : Int := chn [szS szRow t.rows] l
theorem szModel_chn (t : Mod.Model) (l : Int) : szModel t l = chn [szS szRow t.rows] l := rfl
theorem szModel_shr (t : Mod.Model) : Shr szModel t := chn_shr (by
  intro f hf
  simp only [List.mem_cons, List.not_mem_nil, or_false] at hf
  rcases hf with rfl
  · exact Shr.shl (f := szS szRow) (x := t.rows) (szS_shr fun t _ => szRow_shr t))
theorem c_laws_szModel (t : Mod.Model) (l : Int) (h0 : 0 ≤ l) (hl1 : l ≤ 1048576) : C E.P 7 [av (cModel t), iv l] [] (Eq2 (iv (szModel t l)) []) := by
  have hLB : LB = 1099511627776 := rfl
  refine C_goS (nt := 12) (rs := [.tmp 4]) hm Tryz.func7 rfl rfl rfl rfl rfl (fun hl he => ?_)
  simp -implicitDefEqProofs only [go_sem, Z1, Z2, Z3, Z4] at hl ⊢
  rw [szModel_chn]
  have hcall := c_laws_szRowS t.rows l (by omega) (by omega) (fun t _ => szRow_shr t) (fun t _ l h0 h1 => c_laws_szRow t l h0 h1)
  refine atCall [] hcall ?_ ?_ <;> simp -implicitDefEqProofs only [go_sem, Z1, Z2, Z3, Z4]
  have s0 := (Shr.shl (f := szS szRow) (x := t.rows) (szS_shr fun t _ => szRow_shr t)) l (by omega)
  generalize hr0 : (szS szRow t.rows l) = r0 at s0 ⊢
  rcases Classical.em (r0 < 0) with h0 | h0
  · simp -implicitDefEqProofs only [go_sem, Z1, Z2, Z3, Z4, h0]
    refine fin1' ?_
    simp -implicitDefEqProofs only [go_sem, Z1, Z2, Z3, Z4]
    simp [chn, szGo, szN, hr0, h0]
  · simp -implicitDefEqProofs only [go_sem, Z1, Z2, Z3, Z4, h0]
    refine fin1' ?_
    simp -implicitDefEqProofs only [go_sem, Z1, Z2, Z3, Z4]
    simp [chn, szGo, szN, hr0, h0]
mutual
def szForm : Mod.Form → Int → Int
  | .mk _ t ks, l => if szLit t l < 0 then -1 else if szLit t l - ks.length < 0 then -1 else szForms ks (szLit t l - ks.length)
def szForms : List Mod.Form → Int → Int
  | [], l => l
  | t :: ts, l => if szForm t l < 0 then -1 else szForms ts (szForm t l)
end
theorem szForms_eq : ∀ (ts : List Mod.Form) (l : Int), szForms ts l = szGo szForm ts l
  | [], _ => rfl
  | t :: ts, l => by simp only [szForms, szGo, szForms_eq ts]
theorem szForm_shr : ∀ t, Shr szForm t := by
  refine Form.ind fun k t ks ih l h => ?_
  simp only [szForm, szForms_eq]
  have ht := szLit_shr t l h
  split
  · omega
  · split
    · omega
    · have := szGo_shr (f := szForm) (xs := ks) (fun x hm l h => (ih x hm l h).2) (szLit t l - ks.length) (by omega)
      omega
theorem szForm_chn (t : Mod.Form) (l : Int) : szForm t l = chn [szLit t.lit, szS szForm t.kids] l := by
  obtain ⟨k, t, ks⟩ := t
  simp only [szForm, szForms_eq, chn, szGo, szS, Form.lit, Form.kids]
  rcases Classical.em (szLit t l < 0) with h1 | h1
  · simp [h1]
  · rcases Classical.em (szLit t l - ks.length < 0) with h2 | h2
    · simp [h1, h2]
    · have hs := szGo_shr (f := szForm) (xs := ks) (fun x _ l h => (szForm_shr x l h).2) (szLit t l - ks.length) (by omega)
      rcases Classical.em (szGo szForm ks (szLit t l - ks.length) < 0) with h3 | h3
      · have : szGo szForm ks (szLit t l - ks.length) = -1 := by omega
        simp [h1, h2, this]
      · simp [h1, h2, h3]
theorem c_laws_szFormS (ts : List Mod.Form) (l : Int) (h0 : 0 ≤ l) (hl1 : l ≤ 1048576) (sh : ∀ t ∈ ts, Shr szForm t) (c_laws_szForm : ∀ t ∈ ts, ∀ l, 0 ≤ l → l ≤ 1048576 → C E.P 8 [av (cForm t), iv l] [] (Eq2 (iv (szForm t l)) [])) :
    C E.P 17 [lv (rowsForm ts), iv l] [] (Eq2 (iv (szS szForm ts l)) []) := by
  have hLB : LB = 1099511627776 := rfl
  refine C_goS (nt := 27) (rs := [.tmp 4]) hm Tryz.func17 rfl rfl rfl rfl rfl (fun hl he => ?_)
  simp -implicitDefEqProofs only [go_sem, Z1, Z2, Z3, Z4] at hl ⊢
  repeat (with_reducible apply And.intro; case left => omega)
  rcases Classical.em (l - ts.length < 0) with h | h
  · simp -implicitDefEqProofs only [go_sem, Z1, Z2, Z3, Z4, h]
    refine fin1' ?_
    simp -implicitDefEqProofs only [go_sem, Z1, Z2, Z3, Z4]
    all_goals (simp [szS, h]; done)
  · simp -implicitDefEqProofs only [go_sem, Z1, Z2, Z3, Z4, h]
    refine loop_go2 hm (fun (i : Nat) (r : Int) =>  i ≤ ts.length ∧ 0 ≤ r ∧ r ≤ 1048576 ∧ szS szForm ts l = szGo szForm (ts.drop i) r) (fun (i : Nat) (r : Int) =>  ⟨mkS 27 .any [(0, lv (rowsForm ts)), (1, iv r), (5, iv i)], []⟩) (fun (i : Nat) (r : Int) =>  ts.length - i) (0) (l - ts.length) ?_ (weakS [] ?_ ?_ rfl rfl) ?_
    rotate_left
    · simp -implicitDefEqProofs only [go_sem, Z1, Z2, Z3, Z4]
    · simp -implicitDefEqProofs only [go_sem, Z1, Z2, Z3, Z4]
    rotate_left
    · exact ⟨by omega, by omega, by omega, by simp [szS, h]⟩
    · rintro i r ⟨hi, hr0, hr1, hr⟩
      rcases Classical.em (i < ts.length) with h1 | h1
      · have hs := sh ts[i] (List.getElem_mem h1) r hr0
        have hc := c_laws_szForm ts[i] (List.getElem_mem h1) r hr0 hr1
        simp -implicitDefEqProofs only [go_sem, Z1, Z2, Z3, Z4, h1]
        have hcall := hc 
        refine atCall [] hcall ?_ ?_ <;> simp -implicitDefEqProofs only [go_sem, Z1, Z2, Z3, Z4]
        rcases Classical.em (szForm ts[i] r < 0) with h2 | h2
        · simp -implicitDefEqProofs only [go_sem, Z1, Z2, Z3, Z4, h2]
          refine fin1' ?_
          simp -implicitDefEqProofs only [go_sem, Z1, Z2, Z3, Z4]
          rw [hr, szGo_drop h1, if_pos h2]
        · simp -implicitDefEqProofs only [go_sem, Z1, Z2, Z3, Z4, h2]
          repeat (with_reducible apply And.intro; case left => omega)
          refine ⟨i + 1, szForm ts[i] r, ?_, ?_, weakS [] ?_ ?_ rfl rfl⟩
          rotate_left
          · show _ < _
            omega
          · simp -implicitDefEqProofs only [go_sem, Z1, Z2, Z3, Z4]
          · simp -implicitDefEqProofs only [go_sem, Z1, Z2, Z3, Z4]
          exact ⟨by omega, by omega, by omega, by rw [hr, szGo_drop h1, if_neg h2]⟩
      · have : ts.length ≤ i := by omega
        simp -implicitDefEqProofs only [go_sem, Z1, Z2, Z3, Z4, h1]
        refine fin1' ?_
        simp -implicitDefEqProofs only [go_sem, Z1, Z2, Z3, Z4]
        rw [hr, List.drop_of_length_le this]
        rfl
theorem c_laws_szForm1 (t : Mod.Form) (l : Int) (h0 : 0 ≤ l) (hl1 : l ≤ 1048576) (ih : ∀ k ∈ t.kids, ∀ l, 0 ≤ l → l ≤ 1048576 → C E.P 8 [av (cForm k), iv l] [] (Eq2 (iv (szForm k l)) [])) : C E.P 8 [av (cForm t), iv l] [] (Eq2 (iv (szForm t l)) []) := by
  have hLB : LB = 1099511627776 := rfl
  refine C_goS (nt := 18) (rs := [.tmp 4]) hm Tryz.func8 rfl rfl rfl rfl rfl (fun hl he => ?_)
  simp -implicitDefEqProofs only [go_sem, Z1, Z2, Z3, Z4] at hl ⊢
  rw [szForm_chn]
  have hcall := c_laws_szLit t.lit l (by omega) (by omega)
  refine atCall [] hcall ?_ ?_ <;> simp -implicitDefEqProofs only [go_sem, Z1, Z2, Z3, Z4]
  have s0 := ((szLit_shr t.lit).shl) l (by omega)
  generalize hr0 : (szLit t.lit l) = r0 at s0 ⊢
  rcases Classical.em (r0 < 0) with h0 | h0
  · simp -implicitDefEqProofs only [go_sem, Z1, Z2, Z3, Z4, h0]
    refine fin1' ?_
    simp -implicitDefEqProofs only [go_sem, Z1, Z2, Z3, Z4]
    simp [chn, szGo, szN, hr0, h0]
  · simp -implicitDefEqProofs only [go_sem, Z1, Z2, Z3, Z4, h0]
    have hcall := c_laws_szFormS t.kids r0 (by omega) (by omega) (fun t _ => szForm_shr t) ih
    refine atCall [] hcall ?_ ?_ <;> simp -implicitDefEqProofs only [go_sem, Z1, Z2, Z3, Z4]
    have s1 := (Shr.shl (f := szS szForm) (x := t.kids) (szS_shr fun t _ => szForm_shr t)) r0 (by omega)
    generalize hr1 : (szS szForm t.kids r0) = r1 at s1 ⊢
    rcases Classical.em (r1 < 0) with h1 | h1
    · simp -implicitDefEqProofs only [go_sem, Z1, Z2, Z3, Z4, h1]
      refine fin1' ?_
      simp -implicitDefEqProofs only [go_sem, Z1, Z2, Z3, Z4]
      simp [chn, szGo, szN, hr0, h0, hr1, h1]
    · simp -implicitDefEqProofs only [go_sem, Z1, Z2, Z3, Z4, h1]
      refine fin1' ?_
      simp -implicitDefEqProofs only [go_sem, Z1, Z2, Z3, Z4]
      simp [chn, szGo, szN, hr0, h0, hr1, h1]
theorem c_laws_szForm : ∀ (t : Mod.Form) (l : Int), 0 ≤ l → l ≤ 1048576 → C E.P 8 [av (cForm t), iv l] [] (Eq2 (iv (szForm t l)) []) :=
  Form.ind fun k x ks ih l h0 h1 => c_laws_szForm1 (.mk k x ks) l h0 h1 ih
theorem c_laws_toRat (t : Mod.Rat) : C E.P 130 [av (cRat t)] [] (Eq2 (av (cRat t)) []) := by
  have hLB : LB = 1099511627776 := rfl
  refine C_goS (nt := 11) (rs := [.cell 2 141]) hm Tryz.func130 rfl rfl rfl rfl rfl (fun hl he => ?_)
  simp -implicitDefEqProofs only [go_sem, Z1, Z2, Z3, Z4] at hl ⊢
  refine fin1' ?_
  simp -implicitDefEqProofs only [go_sem, Z1, Z2, Z3, Z4]
theorem c_laws_toRatS (ts : List Mod.Rat) (c_laws_toRat : ∀ t ∈ ts, C E.P 130 [av (cRat t)] [] (Eq2 (av (cRat t)) [])) :
    C E.P 129 [lv (rowsRat ts)] [] (Eq2 (lv (rowsRat ts)) []) := by
  have hLB : LB = 1099511627776 := rfl
  refine C_goS (nt := 23) (rs := [.tmp 2]) hm Tryz.func129 rfl rfl rfl rfl rfl (fun hl he => ?_)
  simp -implicitDefEqProofs only [go_sem, Z1, Z2, Z3, Z4] at hl ⊢
  repeat (with_reducible apply And.intro; case left => omega)
  refine loop_go1 hm (fun (i : Nat) =>  i ≤ ts.length) (fun (i : Nat) =>  ⟨mkS 23 .any [(0, lv (rowsRat ts)), (3, .acc 0), (4, iv i)], [some (.acc 141 (part (rowsRat ts) [.val (.int .i64 0), .val (.int .i64 0)] i))]⟩) (fun (i : Nat) =>  ts.length - i) (0) ?_ (weakS [some 0] ?_ ?_ rfl rfl) ?_
  rotate_left
  · simp -implicitDefEqProofs only [go_sem, Z1, Z2, Z3, Z4]
  · simp -implicitDefEqProofs only [go_sem, Z1, Z2, Z3, Z4]
    all_goals (simp [part_zero, rowsRat_len])
  rotate_left
  · omega
  · rintro i hi
    have hp : (part (rowsRat ts) [.val (.int .i64 0), .val (.int .i64 0)] i).length = ts.length := by rw [part_len _ _ _ (by rw [rowsRat_len]; omega), rowsRat_len]
    rcases Classical.em (i < ts.length) with h1 | h1
    · have hset := part_set (rowsRat ts) [.val (.int .i64 0), .val (.int .i64 0)] [.val (.int .i64 ts[i].N), .val (.int .i64 ts[i].D)] i (by rw [rowsRat_len]; exact h1) (rowsRat_row h1) rfl
      simp -implicitDefEqProofs only [go_sem, Z1, Z2, Z3, Z4, h1, hp]
      have hc := c_laws_toRat ts[i] (List.getElem_mem h1)
      have hcall := hc 
      refine atCall [] hcall ?_ ?_ <;> simp -implicitDefEqProofs only [go_sem, Z1, Z2, Z3, Z4, h1, hp]
      repeat (with_reducible apply And.intro; case left => omega)
      refine ⟨i + 1, ?_, ?_, weakS [some 0] ?_ ?_ rfl rfl⟩
      rotate_left
      · show _ < _
        omega
      · simp -implicitDefEqProofs only [go_sem, Z1, Z2, Z3, Z4]
      · simp -implicitDefEqProofs only [go_sem, Z1, Z2, Z3, Z4]
        all_goals (exact hset)
      exact h1
    · simp -implicitDefEqProofs only [go_sem, Z1, Z2, Z3, Z4, h1]
      refine fin1' ?_
      simp -implicitDefEqProofs only [go_sem, Z1, Z2, Z3, Z4]
      rw [part_all _ _ _ (by rw [rowsRat_len]; omega)]
theorem c_laws_toRow (t : Mod.Row) : C E.P 75 [av (cRow t)] [] (Eq2 (av (cRow t)) []) := by
  have hLB : LB = 1099511627776 := rfl
  refine C_goS (nt := 16) (rs := [.cell 2 151]) hm Tryz.func75 rfl rfl rfl rfl rfl (fun hl he => ?_)
  simp -implicitDefEqProofs only [go_sem, Z1, Z2, Z3, Z4] at hl ⊢
  have hcall := c_laws_toRatS t.args (fun t _ => c_laws_toRat t)
  refine atCall [] hcall ?_ ?_ <;> simp -implicitDefEqProofs only [go_sem, Z1, Z2, Z3, Z4]
  have hcall := c_laws_toRat t.val
  refine atCall [] hcall ?_ ?_ <;> simp -implicitDefEqProofs only [go_sem, Z1, Z2, Z3, Z4]
  refine fin1' ?_
  simp -implicitDefEqProofs only [go_sem, Z1, Z2, Z3, Z4]
theorem c_laws_toRowS (ts : List Mod.Row) (c_laws_toRow : ∀ t ∈ ts, C E.P 75 [av (cRow t)] [] (Eq2 (av (cRow t)) [])) :
    C E.P 35 [lv (rowsRow ts)] [] (Eq2 (lv (rowsRow ts)) []) := by
  have hLB : LB = 1099511627776 := rfl
  refine C_goS (nt := 23) (rs := [.tmp 2]) hm Tryz.func35 rfl rfl rfl rfl rfl (fun hl he => ?_)
  simp -implicitDefEqProofs only [go_sem, Z1, Z2, Z3, Z4] at hl ⊢
  repeat (with_reducible apply And.intro; case left => omega)
  refine loop_go1 hm (fun (i : Nat) =>  i ≤ ts.length) (fun (i : Nat) =>  ⟨mkS 23 .any [(0, lv (rowsRow ts)), (3, .acc 0), (4, iv i)], [some (.acc 151 (part (rowsRow ts) [.str [], .lst [], .val (.int .i64 0), .val (.int .i64 0)] i))]⟩) (fun (i : Nat) =>  ts.length - i) (0) ?_ (weakS [some 0] ?_ ?_ rfl rfl) ?_
  rotate_left
  · simp -implicitDefEqProofs only [go_sem, Z1, Z2, Z3, Z4]
  · simp -implicitDefEqProofs only [go_sem, Z1, Z2, Z3, Z4]
    all_goals (simp [part_zero, rowsRow_len])
  rotate_left
  · omega
  · rintro i hi
    have hp : (part (rowsRow ts) [.str [], .lst [], .val (.int .i64 0), .val (.int .i64 0)] i).length = ts.length := by rw [part_len _ _ _ (by rw [rowsRow_len]; omega), rowsRow_len]
    rcases Classical.em (i < ts.length) with h1 | h1
    · have hset := part_set (rowsRow ts) [.str [], .lst [], .val (.int .i64 0), .val (.int .i64 0)] [.str ts[i].name, .lst (rowsRat ts[i].args), .val (.int .i64 ts[i].val.N), .val (.int .i64 ts[i].val.D)] i (by rw [rowsRow_len]; exact h1) (rowsRow_row h1) rfl
      simp -implicitDefEqProofs only [go_sem, Z1, Z2, Z3, Z4, h1, hp]
      have hc := c_laws_toRow ts[i] (List.getElem_mem h1)
      have hcall := hc 
      refine atCall [] hcall ?_ ?_ <;> simp -implicitDefEqProofs only [go_sem, Z1, Z2, Z3, Z4, h1, hp]
      repeat (with_reducible apply And.intro; case left => omega)
      refine ⟨i + 1, ?_, ?_, weakS [some 0] ?_ ?_ rfl rfl⟩
      rotate_left
      · show _ < _
        omega
      · simp -implicitDefEqProofs only [go_sem, Z1, Z2, Z3, Z4]
      · simp -implicitDefEqProofs only [go_sem, Z1, Z2, Z3, Z4]
        all_goals (exact hset)
      exact h1
    · simp -implicitDefEqProofs only [go_sem, Z1, Z2, Z3, Z4, h1]
      refine fin1' ?_
      simp -implicitDefEqProofs only [go_sem, Z1, Z2, Z3, Z4]
      rw [part_all _ _ _ (by rw [rowsRow_len]; omega)]
theorem c_laws_toModel (t : Mod.Model) : C E.P 11 [av (cModel t)] [] (Eq2 (av (cModel t)) []) := by
  have hLB : LB = 1099511627776 := rfl
  refine C_goS (nt := 9) (rs := [.cell 2 50]) hm Tryz.func11 rfl rfl rfl rfl rfl (fun hl he => ?_)
  simp -implicitDefEqProofs only [go_sem, Z1, Z2, Z3, Z4] at hl ⊢
  have hcall := c_laws_toRowS t.rows (fun t _ => c_laws_toRow t)
  refine atCall [] hcall ?_ ?_ <;> simp -implicitDefEqProofs only [go_sem, Z1, Z2, Z3, Z4]
  refine fin1' ?_
  simp -implicitDefEqProofs only [go_sem, Z1, Z2, Z3, Z4]
theorem c_laws_toFormS (ts : List Mod.Form) (c_laws_toForm : ∀ t ∈ ts, C E.P 12 [av (cForm t)] [] (Eq2 (av (cForm t)) [])) :
    C E.P 19 [lv (rowsForm ts)] [] (Eq2 (lv (rowsForm ts)) []) := by
  have hLB : LB = 1099511627776 := rfl
  refine C_goS (nt := 23) (rs := [.tmp 2]) hm Tryz.func19 rfl rfl rfl rfl rfl (fun hl he => ?_)
  simp -implicitDefEqProofs only [go_sem, Z1, Z2, Z3, Z4] at hl ⊢
  repeat (with_reducible apply And.intro; case left => omega)
  refine loop_go1 hm (fun (i : Nat) =>  i ≤ ts.length) (fun (i : Nat) =>  ⟨mkS 23 .any [(0, lv (rowsForm ts)), (3, .acc 0), (4, iv i)], [some (.acc 61 (part (rowsForm ts) [.val (.int .i64 0), .val (.int .i64 0), .str [], .lst [], .str [], .lst [], .lst [], .lst [], .val (.int .i64 0), .val (.bool false), .val (.bool false), .lst []] i))]⟩) (fun (i : Nat) =>  ts.length - i) (0) ?_ (weakS [some 0] ?_ ?_ rfl rfl) ?_
  rotate_left
  · simp -implicitDefEqProofs only [go_sem, Z1, Z2, Z3, Z4]
  · simp -implicitDefEqProofs only [go_sem, Z1, Z2, Z3, Z4]
    all_goals (simp [part_zero, rowsForm_len])
  rotate_left
  · omega
  · rintro i hi
    have hp : (part (rowsForm ts) [.val (.int .i64 0), .val (.int .i64 0), .str [], .lst [], .str [], .lst [], .lst [], .lst [], .val (.int .i64 0), .val (.bool false), .val (.bool false), .lst []] i).length = ts.length := by rw [part_len _ _ _ (by rw [rowsForm_len]; omega), rowsForm_len]
    rcases Classical.em (i < ts.length) with h1 | h1
    · have hset := part_set (rowsForm ts) [.val (.int .i64 0), .val (.int .i64 0), .str [], .lst [], .str [], .lst [], .lst [], .lst [], .val (.int .i64 0), .val (.bool false), .val (.bool false), .lst []] [.val (.int .i64 ts[i].kind), .val (.int .i64 ts[i].lit.atom.kind), .str ts[i].lit.atom.A.name, .lst (rowsT ts[i].lit.atom.A.kids), .str ts[i].lit.atom.B.name, .lst (rowsT ts[i].lit.atom.B.kids), .lst (rowsT ts[i].lit.atom.nums), .lst (rowsI ts[i].lit.atom.times), .val (.int .i64 ts[i].lit.atom.bound), .val (.bool ts[i].lit.atom.strict), .val (.bool ts[i].lit.no), .lst (rowsForm ts[i].kids)] i (by rw [rowsForm_len]; exact h1) (rowsForm_row h1) rfl
      simp -implicitDefEqProofs only [go_sem, Z1, Z2, Z3, Z4, h1, hp]
      have hc := c_laws_toForm ts[i] (List.getElem_mem h1)
      have hcall := hc 
      refine atCall [] hcall ?_ ?_ <;> simp -implicitDefEqProofs only [go_sem, Z1, Z2, Z3, Z4, h1, hp]
      repeat (with_reducible apply And.intro; case left => omega)
      refine ⟨i + 1, ?_, ?_, weakS [some 0] ?_ ?_ rfl rfl⟩
      rotate_left
      · show _ < _
        omega
      · simp -implicitDefEqProofs only [go_sem, Z1, Z2, Z3, Z4]
      · simp -implicitDefEqProofs only [go_sem, Z1, Z2, Z3, Z4]
        all_goals (exact hset)
      exact h1
    · simp -implicitDefEqProofs only [go_sem, Z1, Z2, Z3, Z4, h1]
      refine fin1' ?_
      simp -implicitDefEqProofs only [go_sem, Z1, Z2, Z3, Z4]
      rw [part_all _ _ _ (by rw [rowsForm_len]; omega)]
theorem c_laws_toForm1 (t : Mod.Form) (ih : ∀ k ∈ t.kids, C E.P 12 [av (cForm k)] [] (Eq2 (av (cForm k)) [])) : C E.P 12 [av (cForm t)] [] (Eq2 (av (cForm t)) []) := by
  have hLB : LB = 1099511627776 := rfl
  refine C_goS (nt := 16) (rs := [.cell 2 61]) hm Tryz.func12 rfl rfl rfl rfl rfl (fun hl he => ?_)
  simp -implicitDefEqProofs only [go_sem, Z1, Z2, Z3, Z4] at hl ⊢
  have hcall := c_laws_toLit t.lit
  refine atCall [] hcall ?_ ?_ <;> simp -implicitDefEqProofs only [go_sem, Z1, Z2, Z3, Z4]
  have hcall := c_laws_toFormS t.kids ih
  refine atCall [] hcall ?_ ?_ <;> simp -implicitDefEqProofs only [go_sem, Z1, Z2, Z3, Z4]
  refine fin1' ?_
  simp -implicitDefEqProofs only [go_sem, Z1, Z2, Z3, Z4]
theorem c_laws_toForm : ∀ t, C E.P 12 [av (cForm t)] [] (Eq2 (av (cForm t)) []) :=
  Form.ind fun k x ks ih => c_laws_toForm1 _ ih
theorem c_laws_eqRat (t : Mod.Rat) : C E.P 150 [av (cRat t), av (cRat t)] [] (Eq2 (bv true) []) := by
  have hLB : LB = 1099511627776 := rfl
  refine C_goS (nt := 15) (rs := [.tmp 4]) hm Tryz.func150 rfl rfl rfl rfl rfl (fun hl he => ?_)
  simp -implicitDefEqProofs only [go_sem, Z1, Z2, Z3, Z4] at hl ⊢
  refine fin1' ?_
  simp -implicitDefEqProofs only [go_sem, Z1, Z2, Z3, Z4]
theorem c_laws_eqRatS (ts : List Mod.Rat) (hel : ∀ t ∈ ts, C E.P 150 [av (cRat t), av (cRat t)] [] (Eq2 (bv true) [])) : C E.P 149 [lv (rowsRat ts), lv (rowsRat ts)] [] (Eq2 (bv true) []) := by
  have hLB : LB = 1099511627776 := rfl
  refine C_goS (nt := 27) (rs := [.tmp 4]) hm Tryz.func149 rfl rfl rfl rfl rfl (fun hl he => ?_)
  simp -implicitDefEqProofs only [go_sem, Z1, Z2, Z3, Z4] at hl ⊢
  refine loop_go1 hm (fun (i : Nat) =>  i ≤ ts.length) (fun (i : Nat) =>  ⟨mkS 27 .any [(0, lv (rowsRat ts)), (1, lv (rowsRat ts)), (5, iv i)], []⟩) (fun (i : Nat) =>  ts.length - i) (0) ?_ (weakS [] ?_ ?_ rfl rfl) ?_
  rotate_left
  · simp -implicitDefEqProofs only [go_sem, Z1, Z2, Z3, Z4]
  · simp -implicitDefEqProofs only [go_sem, Z1, Z2, Z3, Z4]
  rotate_left
  · omega
  · rintro i hi
    rcases Classical.em (i < ts.length) with h1 | h1
    · simp -implicitDefEqProofs only [go_sem, Z1, Z2, Z3, Z4, h1]
      have hc := hel ts[i] (List.getElem_mem h1)
      have hcall := hc 
      refine atCall [] hcall ?_ ?_ <;> simp -implicitDefEqProofs only [go_sem, Z1, Z2, Z3, Z4, h1]
      with_reducible refine ind_andM (by kernel_rfl) ?_
      repeat (with_reducible apply And.intro; case left => omega)
      refine ⟨i + 1, ?_, ?_, weakS [] ?_ ?_ rfl rfl⟩
      rotate_left
      · show _ < _
        omega
      · simp -implicitDefEqProofs only [go_sem, Z1, Z2, Z3, Z4]
      · simp -implicitDefEqProofs only [go_sem, Z1, Z2, Z3, Z4]
      exact h1
    · simp -implicitDefEqProofs only [go_sem, Z1, Z2, Z3, Z4, h1]
      refine fin1' ?_
      simp -implicitDefEqProofs only [go_sem, Z1, Z2, Z3, Z4]
theorem c_laws_eqRow (t : Mod.Row) : C E.P 87 [av (cRow t), av (cRow t)] [] (Eq2 (bv true) []) := by
  have hLB : LB = 1099511627776 := rfl
  refine C_goS (nt := 22) (rs := [.tmp 4]) hm Tryz.func87 rfl rfl rfl rfl rfl (fun hl he => ?_)
  simp -implicitDefEqProofs only [go_sem, Z1, Z2, Z3, Z4] at hl ⊢
  have hcall := c_laws_eqRatS t.args (fun t _ => c_laws_eqRat t)
  refine atCall [] hcall ?_ ?_ <;> simp -implicitDefEqProofs only [go_sem, Z1, Z2, Z3, Z4]
  have hcall := c_laws_eqRat t.val
  refine atCall [] hcall ?_ ?_ <;> simp -implicitDefEqProofs only [go_sem, Z1, Z2, Z3, Z4]
  refine fin1' ?_
  simp -implicitDefEqProofs only [go_sem, Z1, Z2, Z3, Z4]
theorem c_laws_eqRowS (ts : List Mod.Row) (hel : ∀ t ∈ ts, C E.P 87 [av (cRow t), av (cRow t)] [] (Eq2 (bv true) [])) : C E.P 42 [lv (rowsRow ts), lv (rowsRow ts)] [] (Eq2 (bv true) []) := by
  have hLB : LB = 1099511627776 := rfl
  refine C_goS (nt := 27) (rs := [.tmp 4]) hm Tryz.func42 rfl rfl rfl rfl rfl (fun hl he => ?_)
  simp -implicitDefEqProofs only [go_sem, Z1, Z2, Z3, Z4] at hl ⊢
  refine loop_go1 hm (fun (i : Nat) =>  i ≤ ts.length) (fun (i : Nat) =>  ⟨mkS 27 .any [(0, lv (rowsRow ts)), (1, lv (rowsRow ts)), (5, iv i)], []⟩) (fun (i : Nat) =>  ts.length - i) (0) ?_ (weakS [] ?_ ?_ rfl rfl) ?_
  rotate_left
  · simp -implicitDefEqProofs only [go_sem, Z1, Z2, Z3, Z4]
  · simp -implicitDefEqProofs only [go_sem, Z1, Z2, Z3, Z4]
  rotate_left
  · omega
  · rintro i hi
    rcases Classical.em (i < ts.length) with h1 | h1
    · simp -implicitDefEqProofs only [go_sem, Z1, Z2, Z3, Z4, h1]
      have hc := hel ts[i] (List.getElem_mem h1)
      have hcall := hc 
      refine atCall [] hcall ?_ ?_ <;> simp -implicitDefEqProofs only [go_sem, Z1, Z2, Z3, Z4, h1]
      with_reducible refine ind_andM (by kernel_rfl) ?_
      repeat (with_reducible apply And.intro; case left => omega)
      refine ⟨i + 1, ?_, ?_, weakS [] ?_ ?_ rfl rfl⟩
      rotate_left
      · show _ < _
        omega
      · simp -implicitDefEqProofs only [go_sem, Z1, Z2, Z3, Z4]
      · simp -implicitDefEqProofs only [go_sem, Z1, Z2, Z3, Z4]
      exact h1
    · simp -implicitDefEqProofs only [go_sem, Z1, Z2, Z3, Z4, h1]
      refine fin1' ?_
      simp -implicitDefEqProofs only [go_sem, Z1, Z2, Z3, Z4]
theorem c_laws_eqModel (t : Mod.Model) : C E.P 15 [av (cModel t), av (cModel t)] [] (Eq2 (bv true) []) := by
  have hLB : LB = 1099511627776 := rfl
  refine C_goS (nt := 11) (rs := [.tmp 4]) hm Tryz.func15 rfl rfl rfl rfl rfl (fun hl he => ?_)
  simp -implicitDefEqProofs only [go_sem, Z1, Z2, Z3, Z4] at hl ⊢
  have hcall := c_laws_eqRowS t.rows (fun t _ => c_laws_eqRow t)
  refine atCall [] hcall ?_ ?_ <;> simp -implicitDefEqProofs only [go_sem, Z1, Z2, Z3, Z4]
  refine fin1' ?_
  simp -implicitDefEqProofs only [go_sem, Z1, Z2, Z3, Z4]
theorem c_laws_eqFormS (ts : List Mod.Form) (hel : ∀ t ∈ ts, C E.P 16 [av (cForm t), av (cForm t)] [] (Eq2 (bv true) [])) : C E.P 21 [lv (rowsForm ts), lv (rowsForm ts)] [] (Eq2 (bv true) []) := by
  have hLB : LB = 1099511627776 := rfl
  refine C_goS (nt := 27) (rs := [.tmp 4]) hm Tryz.func21 rfl rfl rfl rfl rfl (fun hl he => ?_)
  simp -implicitDefEqProofs only [go_sem, Z1, Z2, Z3, Z4] at hl ⊢
  refine loop_go1 hm (fun (i : Nat) =>  i ≤ ts.length) (fun (i : Nat) =>  ⟨mkS 27 .any [(0, lv (rowsForm ts)), (1, lv (rowsForm ts)), (5, iv i)], []⟩) (fun (i : Nat) =>  ts.length - i) (0) ?_ (weakS [] ?_ ?_ rfl rfl) ?_
  rotate_left
  · simp -implicitDefEqProofs only [go_sem, Z1, Z2, Z3, Z4]
  · simp -implicitDefEqProofs only [go_sem, Z1, Z2, Z3, Z4]
  rotate_left
  · omega
  · rintro i hi
    rcases Classical.em (i < ts.length) with h1 | h1
    · simp -implicitDefEqProofs only [go_sem, Z1, Z2, Z3, Z4, h1]
      have hc := hel ts[i] (List.getElem_mem h1)
      have hcall := hc 
      refine atCall [] hcall ?_ ?_ <;> simp -implicitDefEqProofs only [go_sem, Z1, Z2, Z3, Z4, h1]
      with_reducible refine ind_andM (by kernel_rfl) ?_
      repeat (with_reducible apply And.intro; case left => omega)
      refine ⟨i + 1, ?_, ?_, weakS [] ?_ ?_ rfl rfl⟩
      rotate_left
      · show _ < _
        omega
      · simp -implicitDefEqProofs only [go_sem, Z1, Z2, Z3, Z4]
      · simp -implicitDefEqProofs only [go_sem, Z1, Z2, Z3, Z4]
      exact h1
    · simp -implicitDefEqProofs only [go_sem, Z1, Z2, Z3, Z4, h1]
      refine fin1' ?_
      simp -implicitDefEqProofs only [go_sem, Z1, Z2, Z3, Z4]
theorem c_laws_eqForm1 (t : Mod.Form) (ih : ∀ k ∈ t.kids, C E.P 16 [av (cForm k), av (cForm k)] [] (Eq2 (bv true) [])) : C E.P 16 [av (cForm t), av (cForm t)] [] (Eq2 (bv true) []) := by
  have hLB : LB = 1099511627776 := rfl
  refine C_goS (nt := 22) (rs := [.tmp 4]) hm Tryz.func16 rfl rfl rfl rfl rfl (fun hl he => ?_)
  simp -implicitDefEqProofs only [go_sem, Z1, Z2, Z3, Z4] at hl ⊢
  have hcall := c_laws_eqLit t.lit
  refine atCall [] hcall ?_ ?_ <;> simp -implicitDefEqProofs only [go_sem, Z1, Z2, Z3, Z4]
  have hcall := c_laws_eqFormS t.kids ih
  refine atCall [] hcall ?_ ?_ <;> simp -implicitDefEqProofs only [go_sem, Z1, Z2, Z3, Z4]
  refine fin1' ?_
  simp -implicitDefEqProofs only [go_sem, Z1, Z2, Z3, Z4]
theorem c_laws_eqForm : ∀ t, C E.P 16 [av (cForm t), av (cForm t)] [] (Eq2 (bv true) []) :=
  Form.ind fun k x ks ih => c_laws_eqForm1 _ ih
end Go.Proofs.YthpjgpbcfdfmoaaGreat
