/-
  Arguments copied: the walks. A step towards the exact laws. Arguments compared with themselves: the walks. A step towards the exact laws.
-/
import Derived.Test.YtipaaldnhdjdeaaGreatKW
set_option linter.unusedVariables false
set_option linter.unusedSimpArgs false
namespace Go.Proofs.YtipaaldnhdjdeaaGreat
open Go.Eng Go.Mod
open Int (reduceEq reduceLT reduceLE reduceToNat)
set_option maxRecDepth 100000
set_option maxHeartbeats 400000
def part (xs : List (List D)) (z : List D) (i : Nat) : List (List D) := xs.take i ++ List.replicate (xs.length - i) z
theorem part_len (xs : List (List D)) (z : List D) (i : Nat) (h : i ≤ xs.length) : (part xs z i).length = xs.length := by simp [part]; omega
theorem part_zero (xs : List (List D)) (z : List D) : part xs z 0 = List.replicate xs.length z := by simp [part]
theorem part_all (xs : List (List D)) (z : List D) (i : Nat) (h : xs.length ≤ i) : part xs z i = xs := by
  have : xs.length - i = 0 := by omega
  simp [part, this, List.take_of_length_le h]
theorem part_row (xs : List (List D)) (z : List D) (i : Nat) (h : i < xs.length) : row (part xs z i) i = z := by
  have e : (xs.take i).length = i := by simp; omega
  simp only [row, part, List.getD]
  rw [List.getElem?_append_right (by omega), e, Nat.sub_self, List.getElem?_replicate, if_pos (by omega)]
  rfl
theorem spl_whole (z c : List D) (h : c.length = z.length) : spl z 0 c = c := by
  simp [spl, List.drop_of_length_le (by omega : z.length ≤ c.length)]
theorem part_set (xs : List (List D)) (z c : List D) (i : Nat) (h : i < xs.length) (hc : row xs i = c) (hl : c.length = z.length) : (part xs z i).set i (spl (row (part xs z i) i) 0 c) = part xs z (i + 1) := by
  rw [part_row xs z i h, spl_whole z c hl]
  have e : (xs.take i).length = i := by simp; omega
  have hx : xs[i]? = some c := by
    rw [← hc]
    simp [row, List.getD, List.getElem?_eq_getElem h]
  simp only [part]
  rw [List.set_append_right _ _ (by omega), e, Nat.sub_self]
  have h1 : xs.length - i = (xs.length - (i + 1)) + 1 := by omega
  rw [h1, List.replicate_succ, List.set_cons_zero, List.take_add_one, hx]
  simp
theorem c_laws_toIntS (ts : List Int) :
    C E.P 28 [lv (rowsI ts)] [] (Eq2 (lv (rowsI ts)) []) := by
  have hLB : LB = 1099511627776 := rfl
  refine C_goS (nt := 22) (rs := [.tmp 2]) hm Tryz.func28 rfl rfl rfl rfl rfl (fun hl he => ?_)
  simp -implicitDefEqProofs only [go_sem, reduceEq, reduceLT, reduceLE, reduceToNat] at hl ⊢
  repeat (with_reducible apply And.intro; case left => omega)
  refine loop_go1 hm (fun (i : Nat) =>  i ≤ ts.length) (fun (i : Nat) =>  ⟨mkS 22 .any [(0, lv (rowsI ts)), (3, .acc 0), (4, iv i)], [some (.acc 3 (part (rowsI ts) [.val (.int .i64 0)] i))]⟩) (fun (i : Nat) =>  ts.length - i) (0) ?_ (weakS [some 0] ?_ ?_ rfl rfl) ?_
  rotate_left
  · simp -implicitDefEqProofs only [go_sem, reduceEq, reduceLT, reduceLE, reduceToNat]
  · simp -implicitDefEqProofs only [go_sem, reduceEq, reduceLT, reduceLE, reduceToNat]
    all_goals (simp [part_zero, rowsI_len])
  rotate_left
  · omega
  · rintro i hi
    have hp : (part (rowsI ts) [.val (.int .i64 0)] i).length = ts.length := by rw [part_len _ _ _ (by rw [rowsI_len]; omega), rowsI_len]
    rcases Classical.em (i < ts.length) with h1 | h1
    · have hset := part_set (rowsI ts) [.val (.int .i64 0)] [.val (.int .i64 ts[i])] i (by rw [rowsI_len]; exact h1) (rowsI_row h1) rfl
      simp -implicitDefEqProofs only [go_sem, reduceEq, reduceLT, reduceLE, reduceToNat, h1, hp]
      repeat (with_reducible apply And.intro; case left => omega)
      refine ⟨i + 1, ?_, ?_, weakS [some 0] ?_ ?_ rfl rfl⟩
      rotate_left
      · show _ < _
        omega
      · simp -implicitDefEqProofs only [go_sem, reduceEq, reduceLT, reduceLE, reduceToNat]
      · simp -implicitDefEqProofs only [go_sem, reduceEq, reduceLT, reduceLE, reduceToNat]
        all_goals (exact hset)
      exact h1
    · simp -implicitDefEqProofs only [go_sem, reduceEq, reduceLT, reduceLE, reduceToNat, h1]
      refine fin1 (ps := ?_) ?_ ?_
      rotate_left
      · simp -implicitDefEqProofs only [go_sem, reduceEq, reduceLT, reduceLE, reduceToNat]
        rfl
      simp -implicitDefEqProofs only [go_sem, reduceEq, reduceLT, reduceLE, reduceToNat]
      rw [part_all _ _ _ (by rw [rowsI_len]; omega)]
theorem c_laws_toSym (t : Sym) : C E.P 59 [av (cSym t)] [] (Eq2 (av (cSym t)) []) := by
  have hLB : LB = 1099511627776 := rfl
  refine C_goS (nt := 15) (rs := [.cell 2 116]) hm Tryz.func59 rfl rfl rfl rfl rfl (fun hl he => ?_)
  simp -implicitDefEqProofs only [go_sem, reduceEq, reduceLT, reduceLE, reduceToNat] at hl ⊢
  have hcall := c_laws_toIntS t.args
  refine atCall [] hcall ?_ ?_ <;> simp -implicitDefEqProofs only [go_sem, reduceEq, reduceLT, reduceLE, reduceToNat]
  refine fin1 (ps := ?_) ?_ ?_
  rotate_left
  · simp -implicitDefEqProofs only [go_sem, reduceEq, reduceLT, reduceLE, reduceToNat]
    rfl
  simp -implicitDefEqProofs only [go_sem, reduceEq, reduceLT, reduceLE, reduceToNat]
theorem c_laws_toSymS (ts : List Sym) (c_laws_toSym : ∀ t ∈ ts, C E.P 59 [av (cSym t)] [] (Eq2 (av (cSym t)) [])) :
    C E.P 25 [lv (rowsSym ts)] [] (Eq2 (lv (rowsSym ts)) []) := by
  have hLB : LB = 1099511627776 := rfl
  refine C_goS (nt := 23) (rs := [.tmp 2]) hm Tryz.func25 rfl rfl rfl rfl rfl (fun hl he => ?_)
  simp -implicitDefEqProofs only [go_sem, reduceEq, reduceLT, reduceLE, reduceToNat] at hl ⊢
  repeat (with_reducible apply And.intro; case left => omega)
  refine loop_go1 hm (fun (i : Nat) =>  i ≤ ts.length) (fun (i : Nat) =>  ⟨mkS 23 .any [(0, lv (rowsSym ts)), (3, .acc 0), (4, iv i)], [some (.acc 116 (part (rowsSym ts) [.str [], .lst [], .val (.int .i64 0)] i))]⟩) (fun (i : Nat) =>  ts.length - i) (0) ?_ (weakS [some 0] ?_ ?_ rfl rfl) ?_
  rotate_left
  · simp -implicitDefEqProofs only [go_sem, reduceEq, reduceLT, reduceLE, reduceToNat]
  · simp -implicitDefEqProofs only [go_sem, reduceEq, reduceLT, reduceLE, reduceToNat]
    all_goals (simp [part_zero, rowsSym_len])
  rotate_left
  · omega
  · rintro i hi
    have hp : (part (rowsSym ts) [.str [], .lst [], .val (.int .i64 0)] i).length = ts.length := by rw [part_len _ _ _ (by rw [rowsSym_len]; omega), rowsSym_len]
    rcases Classical.em (i < ts.length) with h1 | h1
    · have hset := part_set (rowsSym ts) [.str [], .lst [], .val (.int .i64 0)] [.str ts[i].name, .lst (rowsI ts[i].args), .val (.int .i64 ts[i].sort)] i (by rw [rowsSym_len]; exact h1) (rowsSym_row h1) rfl
      simp -implicitDefEqProofs only [go_sem, reduceEq, reduceLT, reduceLE, reduceToNat, h1, hp]
      have hc := c_laws_toSym ts[i] (List.getElem_mem h1)
      have hcall := hc 
      refine atCall [] hcall ?_ ?_ <;> simp -implicitDefEqProofs only [go_sem, reduceEq, reduceLT, reduceLE, reduceToNat, h1, hp]
      repeat (with_reducible apply And.intro; case left => omega)
      refine ⟨i + 1, ?_, ?_, weakS [some 0] ?_ ?_ rfl rfl⟩
      rotate_left
      · show _ < _
        omega
      · simp -implicitDefEqProofs only [go_sem, reduceEq, reduceLT, reduceLE, reduceToNat]
      · simp -implicitDefEqProofs only [go_sem, reduceEq, reduceLT, reduceLE, reduceToNat]
        all_goals (exact hset)
      exact h1
    · simp -implicitDefEqProofs only [go_sem, reduceEq, reduceLT, reduceLE, reduceToNat, h1]
      refine fin1 (ps := ?_) ?_ ?_
      rotate_left
      · simp -implicitDefEqProofs only [go_sem, reduceEq, reduceLT, reduceLE, reduceToNat]
        rfl
      simp -implicitDefEqProofs only [go_sem, reduceEq, reduceLT, reduceLE, reduceToNat]
      rw [part_all _ _ _ (by rw [rowsSym_len]; omega)]
theorem c_laws_toSig (t : Sig) : C E.P 8 [av (cSig t)] [] (Eq2 (av (cSig t)) []) := by
  have hLB : LB = 1099511627776 := rfl
  refine C_goS (nt := 9) (rs := [.cell 2 42]) hm Tryz.func8 rfl rfl rfl rfl rfl (fun hl he => ?_)
  simp -implicitDefEqProofs only [go_sem, reduceEq, reduceLT, reduceLE, reduceToNat] at hl ⊢
  have hcall := c_laws_toSymS t.syms (fun t _ => c_laws_toSym t)
  refine atCall [] hcall ?_ ?_ <;> simp -implicitDefEqProofs only [go_sem, reduceEq, reduceLT, reduceLE, reduceToNat]
  refine fin1 (ps := ?_) ?_ ?_
  rotate_left
  · simp -implicitDefEqProofs only [go_sem, reduceEq, reduceLT, reduceLE, reduceToNat]
    rfl
  simp -implicitDefEqProofs only [go_sem, reduceEq, reduceLT, reduceLE, reduceToNat]
theorem c_laws_toTermS (ts : List Term) (c_laws_toTerm : ∀ t ∈ ts, C E.P 29 [av (cT t)] [] (Eq2 (av (cT t)) [])) :
    C E.P 62 [lv (rowsT ts)] [] (Eq2 (lv (rowsT ts)) []) := by
  have hLB : LB = 1099511627776 := rfl
  refine C_goS (nt := 23) (rs := [.tmp 2]) hm Tryz.func62 rfl rfl rfl rfl rfl (fun hl he => ?_)
  simp -implicitDefEqProofs only [go_sem, reduceEq, reduceLT, reduceLE, reduceToNat] at hl ⊢
  repeat (with_reducible apply And.intro; case left => omega)
  refine loop_go1 hm (fun (i : Nat) =>  i ≤ ts.length) (fun (i : Nat) =>  ⟨mkS 23 .any [(0, lv (rowsT ts)), (3, .acc 0), (4, iv i)], [some (.acc 48 (part (rowsT ts) [.str [], .lst []] i))]⟩) (fun (i : Nat) =>  ts.length - i) (0) ?_ (weakS [some 0] ?_ ?_ rfl rfl) ?_
  rotate_left
  · simp -implicitDefEqProofs only [go_sem, reduceEq, reduceLT, reduceLE, reduceToNat]
  · simp -implicitDefEqProofs only [go_sem, reduceEq, reduceLT, reduceLE, reduceToNat]
    all_goals (simp [part_zero, rowsT_len])
  rotate_left
  · omega
  · rintro i hi
    have hp : (part (rowsT ts) [.str [], .lst []] i).length = ts.length := by rw [part_len _ _ _ (by rw [rowsT_len]; omega), rowsT_len]
    rcases Classical.em (i < ts.length) with h1 | h1
    · have hset := part_set (rowsT ts) [.str [], .lst []] [.str ts[i].name, .lst (rowsT ts[i].kids)] i (by rw [rowsT_len]; exact h1) (rowsT_row h1) rfl
      simp -implicitDefEqProofs only [go_sem, reduceEq, reduceLT, reduceLE, reduceToNat, h1, hp]
      have hc := c_laws_toTerm ts[i] (List.getElem_mem h1)
      have hcall := hc 
      refine atCall [] hcall ?_ ?_ <;> simp -implicitDefEqProofs only [go_sem, reduceEq, reduceLT, reduceLE, reduceToNat, h1, hp]
      repeat (with_reducible apply And.intro; case left => omega)
      refine ⟨i + 1, ?_, ?_, weakS [some 0] ?_ ?_ rfl rfl⟩
      rotate_left
      · show _ < _
        omega
      · simp -implicitDefEqProofs only [go_sem, reduceEq, reduceLT, reduceLE, reduceToNat]
      · simp -implicitDefEqProofs only [go_sem, reduceEq, reduceLT, reduceLE, reduceToNat]
        all_goals (exact hset)
      exact h1
    · simp -implicitDefEqProofs only [go_sem, reduceEq, reduceLT, reduceLE, reduceToNat, h1]
      refine fin1 (ps := ?_) ?_ ?_
      rotate_left
      · simp -implicitDefEqProofs only [go_sem, reduceEq, reduceLT, reduceLE, reduceToNat]
        rfl
      simp -implicitDefEqProofs only [go_sem, reduceEq, reduceLT, reduceLE, reduceToNat]
      rw [part_all _ _ _ (by rw [rowsT_len]; omega)]
theorem c_laws_toTerm1 (t : Term) (ih : ∀ k ∈ t.kids, C E.P 29 [av (cT k)] [] (Eq2 (av (cT k)) [])) : C E.P 29 [av (cT t)] [] (Eq2 (av (cT t)) []) := by
  have hLB : LB = 1099511627776 := rfl
  refine C_goS (nt := 12) (rs := [.cell 2 48]) hm Tryz.func29 rfl rfl rfl rfl rfl (fun hl he => ?_)
  simp -implicitDefEqProofs only [go_sem, reduceEq, reduceLT, reduceLE, reduceToNat] at hl ⊢
  have hcall := c_laws_toTermS t.kids ih
  refine atCall [] hcall ?_ ?_ <;> simp -implicitDefEqProofs only [go_sem, reduceEq, reduceLT, reduceLE, reduceToNat]
  refine fin1 (ps := ?_) ?_ ?_
  rotate_left
  · simp -implicitDefEqProofs only [go_sem, reduceEq, reduceLT, reduceLE, reduceToNat]
    rfl
  simp -implicitDefEqProofs only [go_sem, reduceEq, reduceLT, reduceLE, reduceToNat]
theorem c_laws_toTerm : ∀ t, C E.P 29 [av (cT t)] [] (Eq2 (av (cT t)) []) :=
  Term.ind fun n ks ih => c_laws_toTerm1 _ ih
theorem c_laws_toAtom (t : Atom) : C E.P 60 [av (cAtom t)] [] (Eq2 (av (cAtom t)) []) := by
  have hLB : LB = 1099511627776 := rfl
  refine C_goS (nt := 30) (rs := [.cell 2 76]) hm Tryz.func60 rfl rfl rfl rfl rfl (fun hl he => ?_)
  simp -implicitDefEqProofs only [go_sem, reduceEq, reduceLT, reduceLE, reduceToNat] at hl ⊢
  have hcall := c_laws_toTerm t.A
  refine atCall [] hcall ?_ ?_ <;> simp -implicitDefEqProofs only [go_sem, reduceEq, reduceLT, reduceLE, reduceToNat]
  have hcall := c_laws_toTerm t.B
  refine atCall [] hcall ?_ ?_ <;> simp -implicitDefEqProofs only [go_sem, reduceEq, reduceLT, reduceLE, reduceToNat]
  have hcall := c_laws_toTermS t.nums (fun t _ => c_laws_toTerm t)
  refine atCall [] hcall ?_ ?_ <;> simp -implicitDefEqProofs only [go_sem, reduceEq, reduceLT, reduceLE, reduceToNat]
  have hcall := c_laws_toIntS t.times
  refine atCall [] hcall ?_ ?_ <;> simp -implicitDefEqProofs only [go_sem, reduceEq, reduceLT, reduceLE, reduceToNat]
  refine fin1 (ps := ?_) ?_ ?_
  rotate_left
  · simp -implicitDefEqProofs only [go_sem, reduceEq, reduceLT, reduceLE, reduceToNat]
    rfl
  simp -implicitDefEqProofs only [go_sem, reduceEq, reduceLT, reduceLE, reduceToNat]
theorem c_laws_toLit (t : LitD) : C E.P 26 [av (cLit t)] [] (Eq2 (av (cLit t)) []) := by
  have hLB : LB = 1099511627776 := rfl
  refine C_goS (nt := 12) (rs := [.cell 2 78]) hm Tryz.func26 rfl rfl rfl rfl rfl (fun hl he => ?_)
  simp -implicitDefEqProofs only [go_sem, reduceEq, reduceLT, reduceLE, reduceToNat] at hl ⊢
  have hcall := c_laws_toAtom t.atom
  refine atCall [] hcall ?_ ?_ <;> simp -implicitDefEqProofs only [go_sem, reduceEq, reduceLT, reduceLE, reduceToNat]
  refine fin1 (ps := ?_) ?_ ?_
  rotate_left
  · simp -implicitDefEqProofs only [go_sem, reduceEq, reduceLT, reduceLE, reduceToNat]
    rfl
  simp -implicitDefEqProofs only [go_sem, reduceEq, reduceLT, reduceLE, reduceToNat]
theorem c_laws_toLitS (ts : List LitD) (c_laws_toLit : ∀ t ∈ ts, C E.P 26 [av (cLit t)] [] (Eq2 (av (cLit t)) [])) :
    C E.P 9 [lv (rowsLit ts)] [] (Eq2 (lv (rowsLit ts)) []) := by
  have hLB : LB = 1099511627776 := rfl
  refine C_goS (nt := 23) (rs := [.tmp 2]) hm Tryz.func9 rfl rfl rfl rfl rfl (fun hl he => ?_)
  simp -implicitDefEqProofs only [go_sem, reduceEq, reduceLT, reduceLE, reduceToNat] at hl ⊢
  repeat (with_reducible apply And.intro; case left => omega)
  refine loop_go1 hm (fun (i : Nat) =>  i ≤ ts.length) (fun (i : Nat) =>  ⟨mkS 23 .any [(0, lv (rowsLit ts)), (3, .acc 0), (4, iv i)], [some (.acc 78 (part (rowsLit ts) [.val (.int .i64 0), .str [], .lst [], .str [], .lst [], .lst [], .lst [], .val (.int .i64 0), .val (.bool false), .val (.bool false)] i))]⟩) (fun (i : Nat) =>  ts.length - i) (0) ?_ (weakS [some 0] ?_ ?_ rfl rfl) ?_
  rotate_left
  · simp -implicitDefEqProofs only [go_sem, reduceEq, reduceLT, reduceLE, reduceToNat]
  · simp -implicitDefEqProofs only [go_sem, reduceEq, reduceLT, reduceLE, reduceToNat]
    all_goals (simp [part_zero, rowsLit_len])
  rotate_left
  · omega
  · rintro i hi
    have hp : (part (rowsLit ts) [.val (.int .i64 0), .str [], .lst [], .str [], .lst [], .lst [], .lst [], .val (.int .i64 0), .val (.bool false), .val (.bool false)] i).length = ts.length := by rw [part_len _ _ _ (by rw [rowsLit_len]; omega), rowsLit_len]
    rcases Classical.em (i < ts.length) with h1 | h1
    · have hset := part_set (rowsLit ts) [.val (.int .i64 0), .str [], .lst [], .str [], .lst [], .lst [], .lst [], .val (.int .i64 0), .val (.bool false), .val (.bool false)] [.val (.int .i64 ts[i].atom.kind), .str ts[i].atom.A.name, .lst (rowsT ts[i].atom.A.kids), .str ts[i].atom.B.name, .lst (rowsT ts[i].atom.B.kids), .lst (rowsT ts[i].atom.nums), .lst (rowsI ts[i].atom.times), .val (.int .i64 ts[i].atom.bound), .val (.bool ts[i].atom.strict), .val (.bool ts[i].no)] i (by rw [rowsLit_len]; exact h1) (rowsLit_row h1) rfl
      simp -implicitDefEqProofs only [go_sem, reduceEq, reduceLT, reduceLE, reduceToNat, h1, hp]
      have hc := c_laws_toLit ts[i] (List.getElem_mem h1)
      have hcall := hc 
      refine atCall [] hcall ?_ ?_ <;> simp -implicitDefEqProofs only [go_sem, reduceEq, reduceLT, reduceLE, reduceToNat, h1, hp]
      repeat (with_reducible apply And.intro; case left => omega)
      refine ⟨i + 1, ?_, ?_, weakS [some 0] ?_ ?_ rfl rfl⟩
      rotate_left
      · show _ < _
        omega
      · simp -implicitDefEqProofs only [go_sem, reduceEq, reduceLT, reduceLE, reduceToNat]
      · simp -implicitDefEqProofs only [go_sem, reduceEq, reduceLT, reduceLE, reduceToNat]
        all_goals (exact hset)
      exact h1
    · simp -implicitDefEqProofs only [go_sem, reduceEq, reduceLT, reduceLE, reduceToNat, h1]
      refine fin1 (ps := ?_) ?_ ?_
      rotate_left
      · simp -implicitDefEqProofs only [go_sem, reduceEq, reduceLT, reduceLE, reduceToNat]
        rfl
      simp -implicitDefEqProofs only [go_sem, reduceEq, reduceLT, reduceLE, reduceToNat]
      rw [part_all _ _ _ (by rw [rowsLit_len]; omega)]
theorem c_laws_toWhyS (ts : List Why) (c_laws_toWhy : ∀ t ∈ ts, C E.P 27 [av (cWhy t)] [] (Eq2 (av (cWhy t)) [])) :
    C E.P 61 [lv (rowsWhy ts)] [] (Eq2 (lv (rowsWhy ts)) []) := by
  have hLB : LB = 1099511627776 := rfl
  refine C_goS (nt := 23) (rs := [.tmp 2]) hm Tryz.func61 rfl rfl rfl rfl rfl (fun hl he => ?_)
  simp -implicitDefEqProofs only [go_sem, reduceEq, reduceLT, reduceLE, reduceToNat] at hl ⊢
  repeat (with_reducible apply And.intro; case left => omega)
  refine loop_go1 hm (fun (i : Nat) =>  i ≤ ts.length) (fun (i : Nat) =>  ⟨mkS 23 .any [(0, lv (rowsWhy ts)), (3, .acc 0), (4, iv i)], [some (.acc 51 (part (rowsWhy ts) [.val (.int .i64 0), .val (.int .i64 0), .str [], .lst [], .lst []] i))]⟩) (fun (i : Nat) =>  ts.length - i) (0) ?_ (weakS [some 0] ?_ ?_ rfl rfl) ?_
  rotate_left
  · simp -implicitDefEqProofs only [go_sem, reduceEq, reduceLT, reduceLE, reduceToNat]
  · simp -implicitDefEqProofs only [go_sem, reduceEq, reduceLT, reduceLE, reduceToNat]
    all_goals (simp [part_zero, rowsWhy_len])
  rotate_left
  · omega
  · rintro i hi
    have hp : (part (rowsWhy ts) [.val (.int .i64 0), .val (.int .i64 0), .str [], .lst [], .lst []] i).length = ts.length := by rw [part_len _ _ _ (by rw [rowsWhy_len]; omega), rowsWhy_len]
    rcases Classical.em (i < ts.length) with h1 | h1
    · have hset := part_set (rowsWhy ts) [.val (.int .i64 0), .val (.int .i64 0), .str [], .lst [], .lst []] [.val (.int .i64 ts[i].rule), .val (.int .i64 ts[i].n), .str ts[i].t.name, .lst (rowsT ts[i].t.kids), .lst (rowsWhy ts[i].kids)] i (by rw [rowsWhy_len]; exact h1) (rowsWhy_row h1) rfl
      simp -implicitDefEqProofs only [go_sem, reduceEq, reduceLT, reduceLE, reduceToNat, h1, hp]
      have hc := c_laws_toWhy ts[i] (List.getElem_mem h1)
      have hcall := hc 
      refine atCall [] hcall ?_ ?_ <;> simp -implicitDefEqProofs only [go_sem, reduceEq, reduceLT, reduceLE, reduceToNat, h1, hp]
      repeat (with_reducible apply And.intro; case left => omega)
      refine ⟨i + 1, ?_, ?_, weakS [some 0] ?_ ?_ rfl rfl⟩
      rotate_left
      · show _ < _
        omega
      · simp -implicitDefEqProofs only [go_sem, reduceEq, reduceLT, reduceLE, reduceToNat]
      · simp -implicitDefEqProofs only [go_sem, reduceEq, reduceLT, reduceLE, reduceToNat]
        all_goals (exact hset)
      exact h1
    · simp -implicitDefEqProofs only [go_sem, reduceEq, reduceLT, reduceLE, reduceToNat, h1]
      refine fin1 (ps := ?_) ?_ ?_
      rotate_left
      · simp -implicitDefEqProofs only [go_sem, reduceEq, reduceLT, reduceLE, reduceToNat]
        rfl
      simp -implicitDefEqProofs only [go_sem, reduceEq, reduceLT, reduceLE, reduceToNat]
      rw [part_all _ _ _ (by rw [rowsWhy_len]; omega)]
theorem c_laws_toWhy1 (t : Why) (ih : ∀ k ∈ t.kids, C E.P 27 [av (cWhy k)] [] (Eq2 (av (cWhy k)) [])) : C E.P 27 [av (cWhy t)] [] (Eq2 (av (cWhy t)) []) := by
  have hLB : LB = 1099511627776 := rfl
  refine C_goS (nt := 19) (rs := [.cell 2 51]) hm Tryz.func27 rfl rfl rfl rfl rfl (fun hl he => ?_)
  simp -implicitDefEqProofs only [go_sem, reduceEq, reduceLT, reduceLE, reduceToNat] at hl ⊢
  have hcall := c_laws_toTerm t.t
  refine atCall [] hcall ?_ ?_ <;> simp -implicitDefEqProofs only [go_sem, reduceEq, reduceLT, reduceLE, reduceToNat]
  have hcall := c_laws_toWhyS t.kids ih
  refine atCall [] hcall ?_ ?_ <;> simp -implicitDefEqProofs only [go_sem, reduceEq, reduceLT, reduceLE, reduceToNat]
  refine fin1 (ps := ?_) ?_ ?_
  rotate_left
  · simp -implicitDefEqProofs only [go_sem, reduceEq, reduceLT, reduceLE, reduceToNat]
    rfl
  simp -implicitDefEqProofs only [go_sem, reduceEq, reduceLT, reduceLE, reduceToNat]
theorem c_laws_toWhy : ∀ t, C E.P 27 [av (cWhy t)] [] (Eq2 (av (cWhy t)) []) :=
  Why.ind fun r n t ks ih => c_laws_toWhy1 _ ih
theorem c_laws_toCaseS (ts : List Case) (c_laws_toCase : ∀ t ∈ ts, C E.P 10 [av (cCase t)] [] (Eq2 (av (cCase t)) [])) :
    C E.P 30 [lv (rowsCase ts)] [] (Eq2 (lv (rowsCase ts)) []) := by
  have hLB : LB = 1099511627776 := rfl
  refine C_goS (nt := 23) (rs := [.tmp 2]) hm Tryz.func30 rfl rfl rfl rfl rfl (fun hl he => ?_)
  simp -implicitDefEqProofs only [go_sem, reduceEq, reduceLT, reduceLE, reduceToNat] at hl ⊢
  repeat (with_reducible apply And.intro; case left => omega)
  refine loop_go1 hm (fun (i : Nat) =>  i ≤ ts.length) (fun (i : Nat) =>  ⟨mkS 23 .any [(0, lv (rowsCase ts)), (3, .acc 0), (4, iv i)], [some (.acc 54 (part (rowsCase ts) [.val (.int .i64 0), .val (.int .i64 0), .val (.int .i64 0), .val (.int .i64 0), .str [], .lst [], .lst [], .lst [], .str [], .lst [], .str [], .lst [], .lst []] i))]⟩) (fun (i : Nat) =>  ts.length - i) (0) ?_ (weakS [some 0] ?_ ?_ rfl rfl) ?_
  rotate_left
  · simp -implicitDefEqProofs only [go_sem, reduceEq, reduceLT, reduceLE, reduceToNat]
  · simp -implicitDefEqProofs only [go_sem, reduceEq, reduceLT, reduceLE, reduceToNat]
    all_goals (simp [part_zero, rowsCase_len])
  rotate_left
  · omega
  · rintro i hi
    have hp : (part (rowsCase ts) [.val (.int .i64 0), .val (.int .i64 0), .val (.int .i64 0), .val (.int .i64 0), .str [], .lst [], .lst [], .lst [], .str [], .lst [], .str [], .lst [], .lst []] i).length = ts.length := by rw [part_len _ _ _ (by rw [rowsCase_len]; omega), rowsCase_len]
    rcases Classical.em (i < ts.length) with h1 | h1
    · have hset := part_set (rowsCase ts) [.val (.int .i64 0), .val (.int .i64 0), .val (.int .i64 0), .val (.int .i64 0), .str [], .lst [], .lst [], .lst [], .str [], .lst [], .str [], .lst [], .lst []] [.val (.int .i64 ts[i].kind), .val (.int .i64 ts[i].n), .val (.int .i64 ts[i].why.rule), .val (.int .i64 ts[i].why.n), .str ts[i].why.t.name, .lst (rowsT ts[i].why.t.kids), .lst (rowsWhy ts[i].why.kids), .lst (rowsI ts[i].times), .str ts[i].A.name, .lst (rowsT ts[i].A.kids), .str ts[i].B.name, .lst (rowsT ts[i].B.kids), .lst (rowsCase ts[i].kids)] i (by rw [rowsCase_len]; exact h1) (rowsCase_row h1) rfl
      simp -implicitDefEqProofs only [go_sem, reduceEq, reduceLT, reduceLE, reduceToNat, h1, hp]
      have hc := c_laws_toCase ts[i] (List.getElem_mem h1)
      have hcall := hc 
      refine atCall [] hcall ?_ ?_ <;> simp -implicitDefEqProofs only [go_sem, reduceEq, reduceLT, reduceLE, reduceToNat, h1, hp]
      repeat (with_reducible apply And.intro; case left => omega)
      refine ⟨i + 1, ?_, ?_, weakS [some 0] ?_ ?_ rfl rfl⟩
      rotate_left
      · show _ < _
        omega
      · simp -implicitDefEqProofs only [go_sem, reduceEq, reduceLT, reduceLE, reduceToNat]
      · simp -implicitDefEqProofs only [go_sem, reduceEq, reduceLT, reduceLE, reduceToNat]
        all_goals (exact hset)
      exact h1
    · simp -implicitDefEqProofs only [go_sem, reduceEq, reduceLT, reduceLE, reduceToNat, h1]
      refine fin1 (ps := ?_) ?_ ?_
      rotate_left
      · simp -implicitDefEqProofs only [go_sem, reduceEq, reduceLT, reduceLE, reduceToNat]
        rfl
      simp -implicitDefEqProofs only [go_sem, reduceEq, reduceLT, reduceLE, reduceToNat]
      rw [part_all _ _ _ (by rw [rowsCase_len]; omega)]
theorem c_laws_toCase1 (t : Case) (ih : ∀ k ∈ t.kids, C E.P 10 [av (cCase k)] [] (Eq2 (av (cCase k)) [])) : C E.P 10 [av (cCase t)] [] (Eq2 (av (cCase t)) []) := by
  have hLB : LB = 1099511627776 := rfl
  refine C_goS (nt := 31) (rs := [.cell 2 54]) hm Tryz.func10 rfl rfl rfl rfl rfl (fun hl he => ?_)
  simp -implicitDefEqProofs only [go_sem, reduceEq, reduceLT, reduceLE, reduceToNat] at hl ⊢
  have hcall := c_laws_toWhy t.why
  refine atCall [] hcall ?_ ?_ <;> simp -implicitDefEqProofs only [go_sem, reduceEq, reduceLT, reduceLE, reduceToNat]
  have hcall := c_laws_toIntS t.times
  refine atCall [] hcall ?_ ?_ <;> simp -implicitDefEqProofs only [go_sem, reduceEq, reduceLT, reduceLE, reduceToNat]
  have hcall := c_laws_toTerm t.A
  refine atCall [] hcall ?_ ?_ <;> simp -implicitDefEqProofs only [go_sem, reduceEq, reduceLT, reduceLE, reduceToNat]
  have hcall := c_laws_toTerm t.B
  refine atCall [] hcall ?_ ?_ <;> simp -implicitDefEqProofs only [go_sem, reduceEq, reduceLT, reduceLE, reduceToNat]
  have hcall := c_laws_toCaseS t.kids ih
  refine atCall [] hcall ?_ ?_ <;> simp -implicitDefEqProofs only [go_sem, reduceEq, reduceLT, reduceLE, reduceToNat]
  refine fin1 (ps := ?_) ?_ ?_
  rotate_left
  · simp -implicitDefEqProofs only [go_sem, reduceEq, reduceLT, reduceLE, reduceToNat]
    rfl
  simp -implicitDefEqProofs only [go_sem, reduceEq, reduceLT, reduceLE, reduceToNat]
theorem c_laws_toCase : ∀ t, C E.P 10 [av (cCase t)] [] (Eq2 (av (cCase t)) []) :=
  Case.ind fun k n w ts a b ks ih => c_laws_toCase1 _ ih
end Go.Proofs.YtipaaldnhdjdeaaGreat
namespace Go.Proofs.YtipaaldnhdjdeaaGreat
open Go.Eng Go.Mod
open Int (reduceEq reduceLT reduceLE reduceToNat)
set_option maxRecDepth 100000
set_option maxHeartbeats 400000
theorem c_laws_eqIntS (ts : List Int) : C E.P 37 [lv (rowsI ts), lv (rowsI ts)] [] (Eq2 (bv true) []) := by
  have hLB : LB = 1099511627776 := rfl
  refine C_goS (nt := 26) (rs := [.tmp 4]) hm Tryz.func37 rfl rfl rfl rfl rfl (fun hl he => ?_)
  simp -implicitDefEqProofs only [go_sem, reduceEq, reduceLT, reduceLE, reduceToNat] at hl ⊢
  refine loop_go1 hm (fun (i : Nat) =>  i ≤ ts.length) (fun (i : Nat) =>  ⟨mkS 26 .any [(0, lv (rowsI ts)), (1, lv (rowsI ts)), (5, iv i)], []⟩) (fun (i : Nat) =>  ts.length - i) (0) ?_ (weakS [] ?_ ?_ rfl rfl) ?_
  rotate_left
  · simp -implicitDefEqProofs only [go_sem, reduceEq, reduceLT, reduceLE, reduceToNat]
  · simp -implicitDefEqProofs only [go_sem, reduceEq, reduceLT, reduceLE, reduceToNat]
  rotate_left
  · omega
  · rintro i hi
    rcases Classical.em (i < ts.length) with h1 | h1
    · simp -implicitDefEqProofs only [go_sem, reduceEq, reduceLT, reduceLE, reduceToNat, h1]
      with_reducible refine ind_andM (by kernel_rfl) ?_
      repeat (with_reducible apply And.intro; case left => omega)
      refine ⟨i + 1, ?_, ?_, weakS [] ?_ ?_ rfl rfl⟩
      rotate_left
      · show _ < _
        omega
      · simp -implicitDefEqProofs only [go_sem, reduceEq, reduceLT, reduceLE, reduceToNat]
      · simp -implicitDefEqProofs only [go_sem, reduceEq, reduceLT, reduceLE, reduceToNat]
      exact h1
    · simp -implicitDefEqProofs only [go_sem, reduceEq, reduceLT, reduceLE, reduceToNat, h1]
      refine fin1 (ps := ?_) ?_ ?_
      rotate_left
      · simp -implicitDefEqProofs only [go_sem, reduceEq, reduceLT, reduceLE, reduceToNat]
        rfl
      simp -implicitDefEqProofs only [go_sem, reduceEq, reduceLT, reduceLE, reduceToNat]
theorem c_laws_eqSym (t : Sym) : C E.P 80 [av (cSym t), av (cSym t)] [] (Eq2 (bv true) []) := by
  have hLB : LB = 1099511627776 := rfl
  refine C_goS (nt := 21) (rs := [.tmp 4]) hm Tryz.func80 rfl rfl rfl rfl rfl (fun hl he => ?_)
  simp -implicitDefEqProofs only [go_sem, reduceEq, reduceLT, reduceLE, reduceToNat] at hl ⊢
  have hcall := c_laws_eqIntS t.args
  refine atCall [] hcall ?_ ?_ <;> simp -implicitDefEqProofs only [go_sem, reduceEq, reduceLT, reduceLE, reduceToNat]
  refine fin1 (ps := ?_) ?_ ?_
  rotate_left
  · simp -implicitDefEqProofs only [go_sem, reduceEq, reduceLT, reduceLE, reduceToNat]
    rfl
  simp -implicitDefEqProofs only [go_sem, reduceEq, reduceLT, reduceLE, reduceToNat]
theorem c_laws_eqSymS (ts : List Sym) (hel : ∀ t ∈ ts, C E.P 80 [av (cSym t), av (cSym t)] [] (Eq2 (bv true) [])) : C E.P 34 [lv (rowsSym ts), lv (rowsSym ts)] [] (Eq2 (bv true) []) := by
  have hLB : LB = 1099511627776 := rfl
  refine C_goS (nt := 27) (rs := [.tmp 4]) hm Tryz.func34 rfl rfl rfl rfl rfl (fun hl he => ?_)
  simp -implicitDefEqProofs only [go_sem, reduceEq, reduceLT, reduceLE, reduceToNat] at hl ⊢
  refine loop_go1 hm (fun (i : Nat) =>  i ≤ ts.length) (fun (i : Nat) =>  ⟨mkS 27 .any [(0, lv (rowsSym ts)), (1, lv (rowsSym ts)), (5, iv i)], []⟩) (fun (i : Nat) =>  ts.length - i) (0) ?_ (weakS [] ?_ ?_ rfl rfl) ?_
  rotate_left
  · simp -implicitDefEqProofs only [go_sem, reduceEq, reduceLT, reduceLE, reduceToNat]
  · simp -implicitDefEqProofs only [go_sem, reduceEq, reduceLT, reduceLE, reduceToNat]
  rotate_left
  · omega
  · rintro i hi
    rcases Classical.em (i < ts.length) with h1 | h1
    · simp -implicitDefEqProofs only [go_sem, reduceEq, reduceLT, reduceLE, reduceToNat, h1]
      have hc := hel ts[i] (List.getElem_mem h1)
      have hcall := hc 
      refine atCall [] hcall ?_ ?_ <;> simp -implicitDefEqProofs only [go_sem, reduceEq, reduceLT, reduceLE, reduceToNat, h1]
      with_reducible refine ind_andM (by kernel_rfl) ?_
      repeat (with_reducible apply And.intro; case left => omega)
      refine ⟨i + 1, ?_, ?_, weakS [] ?_ ?_ rfl rfl⟩
      rotate_left
      · show _ < _
        omega
      · simp -implicitDefEqProofs only [go_sem, reduceEq, reduceLT, reduceLE, reduceToNat]
      · simp -implicitDefEqProofs only [go_sem, reduceEq, reduceLT, reduceLE, reduceToNat]
      exact h1
    · simp -implicitDefEqProofs only [go_sem, reduceEq, reduceLT, reduceLE, reduceToNat, h1]
      refine fin1 (ps := ?_) ?_ ?_
      rotate_left
      · simp -implicitDefEqProofs only [go_sem, reduceEq, reduceLT, reduceLE, reduceToNat]
        rfl
      simp -implicitDefEqProofs only [go_sem, reduceEq, reduceLT, reduceLE, reduceToNat]
theorem c_laws_eqSig (t : Sig) : C E.P 12 [av (cSig t), av (cSig t)] [] (Eq2 (bv true) []) := by
  have hLB : LB = 1099511627776 := rfl
  refine C_goS (nt := 11) (rs := [.tmp 4]) hm Tryz.func12 rfl rfl rfl rfl rfl (fun hl he => ?_)
  simp -implicitDefEqProofs only [go_sem, reduceEq, reduceLT, reduceLE, reduceToNat] at hl ⊢
  have hcall := c_laws_eqSymS t.syms (fun t _ => c_laws_eqSym t)
  refine atCall [] hcall ?_ ?_ <;> simp -implicitDefEqProofs only [go_sem, reduceEq, reduceLT, reduceLE, reduceToNat]
  refine fin1 (ps := ?_) ?_ ?_
  rotate_left
  · simp -implicitDefEqProofs only [go_sem, reduceEq, reduceLT, reduceLE, reduceToNat]
    rfl
  simp -implicitDefEqProofs only [go_sem, reduceEq, reduceLT, reduceLE, reduceToNat]
theorem c_laws_eqTermS (ts : List Term) (hel : ∀ t ∈ ts, C E.P 38 [av (cT t), av (cT t)] [] (Eq2 (bv true) [])) : C E.P 83 [lv (rowsT ts), lv (rowsT ts)] [] (Eq2 (bv true) []) := by
  have hLB : LB = 1099511627776 := rfl
  refine C_goS (nt := 27) (rs := [.tmp 4]) hm Tryz.func83 rfl rfl rfl rfl rfl (fun hl he => ?_)
  simp -implicitDefEqProofs only [go_sem, reduceEq, reduceLT, reduceLE, reduceToNat] at hl ⊢
  refine loop_go1 hm (fun (i : Nat) =>  i ≤ ts.length) (fun (i : Nat) =>  ⟨mkS 27 .any [(0, lv (rowsT ts)), (1, lv (rowsT ts)), (5, iv i)], []⟩) (fun (i : Nat) =>  ts.length - i) (0) ?_ (weakS [] ?_ ?_ rfl rfl) ?_
  rotate_left
  · simp -implicitDefEqProofs only [go_sem, reduceEq, reduceLT, reduceLE, reduceToNat]
  · simp -implicitDefEqProofs only [go_sem, reduceEq, reduceLT, reduceLE, reduceToNat]
  rotate_left
  · omega
  · rintro i hi
    rcases Classical.em (i < ts.length) with h1 | h1
    · simp -implicitDefEqProofs only [go_sem, reduceEq, reduceLT, reduceLE, reduceToNat, h1]
      have hc := hel ts[i] (List.getElem_mem h1)
      have hcall := hc 
      refine atCall [] hcall ?_ ?_ <;> simp -implicitDefEqProofs only [go_sem, reduceEq, reduceLT, reduceLE, reduceToNat, h1]
      with_reducible refine ind_andM (by kernel_rfl) ?_
      repeat (with_reducible apply And.intro; case left => omega)
      refine ⟨i + 1, ?_, ?_, weakS [] ?_ ?_ rfl rfl⟩
      rotate_left
      · show _ < _
        omega
      · simp -implicitDefEqProofs only [go_sem, reduceEq, reduceLT, reduceLE, reduceToNat]
      · simp -implicitDefEqProofs only [go_sem, reduceEq, reduceLT, reduceLE, reduceToNat]
      exact h1
    · simp -implicitDefEqProofs only [go_sem, reduceEq, reduceLT, reduceLE, reduceToNat, h1]
      refine fin1 (ps := ?_) ?_ ?_
      rotate_left
      · simp -implicitDefEqProofs only [go_sem, reduceEq, reduceLT, reduceLE, reduceToNat]
        rfl
      simp -implicitDefEqProofs only [go_sem, reduceEq, reduceLT, reduceLE, reduceToNat]
theorem c_laws_eqTerm1 (t : Term) (ih : ∀ k ∈ t.kids, C E.P 38 [av (cT k), av (cT k)] [] (Eq2 (bv true) [])) : C E.P 38 [av (cT t), av (cT t)] [] (Eq2 (bv true) []) := by
  have hLB : LB = 1099511627776 := rfl
  refine C_goS (nt := 16) (rs := [.tmp 4]) hm Tryz.func38 rfl rfl rfl rfl rfl (fun hl he => ?_)
  simp -implicitDefEqProofs only [go_sem, reduceEq, reduceLT, reduceLE, reduceToNat] at hl ⊢
  have hcall := c_laws_eqTermS t.kids ih
  refine atCall [] hcall ?_ ?_ <;> simp -implicitDefEqProofs only [go_sem, reduceEq, reduceLT, reduceLE, reduceToNat]
  refine fin1 (ps := ?_) ?_ ?_
  rotate_left
  · simp -implicitDefEqProofs only [go_sem, reduceEq, reduceLT, reduceLE, reduceToNat]
    rfl
  simp -implicitDefEqProofs only [go_sem, reduceEq, reduceLT, reduceLE, reduceToNat]
theorem c_laws_eqTerm : ∀ t, C E.P 38 [av (cT t), av (cT t)] [] (Eq2 (bv true) []) :=
  Term.ind fun n ks ih => c_laws_eqTerm1 _ ih
theorem c_laws_eqAtom (t : Atom) : C E.P 81 [av (cAtom t), av (cAtom t)] [] (Eq2 (bv true) []) := by
  have hLB : LB = 1099511627776 := rfl
  refine C_goS (nt := 44) (rs := [.tmp 4]) hm Tryz.func81 rfl rfl rfl rfl rfl (fun hl he => ?_)
  simp -implicitDefEqProofs only [go_sem, reduceEq, reduceLT, reduceLE, reduceToNat] at hl ⊢
  have hcall := c_laws_eqTerm t.A
  refine atCall [] hcall ?_ ?_ <;> simp -implicitDefEqProofs only [go_sem, reduceEq, reduceLT, reduceLE, reduceToNat]
  have hcall := c_laws_eqTerm t.B
  refine atCall [] hcall ?_ ?_ <;> simp -implicitDefEqProofs only [go_sem, reduceEq, reduceLT, reduceLE, reduceToNat]
  have hcall := c_laws_eqTermS t.nums (fun t _ => c_laws_eqTerm t)
  refine atCall [] hcall ?_ ?_ <;> simp -implicitDefEqProofs only [go_sem, reduceEq, reduceLT, reduceLE, reduceToNat]
  have hcall := c_laws_eqIntS t.times
  refine atCall [] hcall ?_ ?_ <;> simp -implicitDefEqProofs only [go_sem, reduceEq, reduceLT, reduceLE, reduceToNat]
  refine fin1 (ps := ?_) ?_ ?_
  rotate_left
  · simp -implicitDefEqProofs only [go_sem, reduceEq, reduceLT, reduceLE, reduceToNat]
    rfl
  simp -implicitDefEqProofs only [go_sem, reduceEq, reduceLT, reduceLE, reduceToNat]
theorem c_laws_eqLit (t : LitD) : C E.P 35 [av (cLit t), av (cLit t)] [] (Eq2 (bv true) []) := by
  have hLB : LB = 1099511627776 := rfl
  refine C_goS (nt := 16) (rs := [.tmp 4]) hm Tryz.func35 rfl rfl rfl rfl rfl (fun hl he => ?_)
  simp -implicitDefEqProofs only [go_sem, reduceEq, reduceLT, reduceLE, reduceToNat] at hl ⊢
  have hcall := c_laws_eqAtom t.atom
  refine atCall [] hcall ?_ ?_ <;> simp -implicitDefEqProofs only [go_sem, reduceEq, reduceLT, reduceLE, reduceToNat]
  refine fin1 (ps := ?_) ?_ ?_
  rotate_left
  · simp -implicitDefEqProofs only [go_sem, reduceEq, reduceLT, reduceLE, reduceToNat]
    rfl
  simp -implicitDefEqProofs only [go_sem, reduceEq, reduceLT, reduceLE, reduceToNat]
theorem c_laws_eqLitS (ts : List LitD) (hel : ∀ t ∈ ts, C E.P 35 [av (cLit t), av (cLit t)] [] (Eq2 (bv true) [])) : C E.P 13 [lv (rowsLit ts), lv (rowsLit ts)] [] (Eq2 (bv true) []) := by
  have hLB : LB = 1099511627776 := rfl
  refine C_goS (nt := 27) (rs := [.tmp 4]) hm Tryz.func13 rfl rfl rfl rfl rfl (fun hl he => ?_)
  simp -implicitDefEqProofs only [go_sem, reduceEq, reduceLT, reduceLE, reduceToNat] at hl ⊢
  refine loop_go1 hm (fun (i : Nat) =>  i ≤ ts.length) (fun (i : Nat) =>  ⟨mkS 27 .any [(0, lv (rowsLit ts)), (1, lv (rowsLit ts)), (5, iv i)], []⟩) (fun (i : Nat) =>  ts.length - i) (0) ?_ (weakS [] ?_ ?_ rfl rfl) ?_
  rotate_left
  · simp -implicitDefEqProofs only [go_sem, reduceEq, reduceLT, reduceLE, reduceToNat]
  · simp -implicitDefEqProofs only [go_sem, reduceEq, reduceLT, reduceLE, reduceToNat]
  rotate_left
  · omega
  · rintro i hi
    rcases Classical.em (i < ts.length) with h1 | h1
    · simp -implicitDefEqProofs only [go_sem, reduceEq, reduceLT, reduceLE, reduceToNat, h1]
      have hc := hel ts[i] (List.getElem_mem h1)
      have hcall := hc 
      refine atCall [] hcall ?_ ?_ <;> simp -implicitDefEqProofs only [go_sem, reduceEq, reduceLT, reduceLE, reduceToNat, h1]
      with_reducible refine ind_andM (by kernel_rfl) ?_
      repeat (with_reducible apply And.intro; case left => omega)
      refine ⟨i + 1, ?_, ?_, weakS [] ?_ ?_ rfl rfl⟩
      rotate_left
      · show _ < _
        omega
      · simp -implicitDefEqProofs only [go_sem, reduceEq, reduceLT, reduceLE, reduceToNat]
      · simp -implicitDefEqProofs only [go_sem, reduceEq, reduceLT, reduceLE, reduceToNat]
      exact h1
    · simp -implicitDefEqProofs only [go_sem, reduceEq, reduceLT, reduceLE, reduceToNat, h1]
      refine fin1 (ps := ?_) ?_ ?_
      rotate_left
      · simp -implicitDefEqProofs only [go_sem, reduceEq, reduceLT, reduceLE, reduceToNat]
        rfl
      simp -implicitDefEqProofs only [go_sem, reduceEq, reduceLT, reduceLE, reduceToNat]
theorem c_laws_eqWhyS (ts : List Why) (hel : ∀ t ∈ ts, C E.P 36 [av (cWhy t), av (cWhy t)] [] (Eq2 (bv true) [])) : C E.P 82 [lv (rowsWhy ts), lv (rowsWhy ts)] [] (Eq2 (bv true) []) := by
  have hLB : LB = 1099511627776 := rfl
  refine C_goS (nt := 27) (rs := [.tmp 4]) hm Tryz.func82 rfl rfl rfl rfl rfl (fun hl he => ?_)
  simp -implicitDefEqProofs only [go_sem, reduceEq, reduceLT, reduceLE, reduceToNat] at hl ⊢
  refine loop_go1 hm (fun (i : Nat) =>  i ≤ ts.length) (fun (i : Nat) =>  ⟨mkS 27 .any [(0, lv (rowsWhy ts)), (1, lv (rowsWhy ts)), (5, iv i)], []⟩) (fun (i : Nat) =>  ts.length - i) (0) ?_ (weakS [] ?_ ?_ rfl rfl) ?_
  rotate_left
  · simp -implicitDefEqProofs only [go_sem, reduceEq, reduceLT, reduceLE, reduceToNat]
  · simp -implicitDefEqProofs only [go_sem, reduceEq, reduceLT, reduceLE, reduceToNat]
  rotate_left
  · omega
  · rintro i hi
    rcases Classical.em (i < ts.length) with h1 | h1
    · simp -implicitDefEqProofs only [go_sem, reduceEq, reduceLT, reduceLE, reduceToNat, h1]
      have hc := hel ts[i] (List.getElem_mem h1)
      have hcall := hc 
      refine atCall [] hcall ?_ ?_ <;> simp -implicitDefEqProofs only [go_sem, reduceEq, reduceLT, reduceLE, reduceToNat, h1]
      with_reducible refine ind_andM (by kernel_rfl) ?_
      repeat (with_reducible apply And.intro; case left => omega)
      refine ⟨i + 1, ?_, ?_, weakS [] ?_ ?_ rfl rfl⟩
      rotate_left
      · show _ < _
        omega
      · simp -implicitDefEqProofs only [go_sem, reduceEq, reduceLT, reduceLE, reduceToNat]
      · simp -implicitDefEqProofs only [go_sem, reduceEq, reduceLT, reduceLE, reduceToNat]
      exact h1
    · simp -implicitDefEqProofs only [go_sem, reduceEq, reduceLT, reduceLE, reduceToNat, h1]
      refine fin1 (ps := ?_) ?_ ?_
      rotate_left
      · simp -implicitDefEqProofs only [go_sem, reduceEq, reduceLT, reduceLE, reduceToNat]
        rfl
      simp -implicitDefEqProofs only [go_sem, reduceEq, reduceLT, reduceLE, reduceToNat]
theorem c_laws_eqWhy1 (t : Why) (ih : ∀ k ∈ t.kids, C E.P 36 [av (cWhy k), av (cWhy k)] [] (Eq2 (bv true) [])) : C E.P 36 [av (cWhy t), av (cWhy t)] [] (Eq2 (bv true) []) := by
  have hLB : LB = 1099511627776 := rfl
  refine C_goS (nt := 27) (rs := [.tmp 4]) hm Tryz.func36 rfl rfl rfl rfl rfl (fun hl he => ?_)
  simp -implicitDefEqProofs only [go_sem, reduceEq, reduceLT, reduceLE, reduceToNat] at hl ⊢
  have hcall := c_laws_eqTerm t.t
  refine atCall [] hcall ?_ ?_ <;> simp -implicitDefEqProofs only [go_sem, reduceEq, reduceLT, reduceLE, reduceToNat]
  have hcall := c_laws_eqWhyS t.kids ih
  refine atCall [] hcall ?_ ?_ <;> simp -implicitDefEqProofs only [go_sem, reduceEq, reduceLT, reduceLE, reduceToNat]
  refine fin1 (ps := ?_) ?_ ?_
  rotate_left
  · simp -implicitDefEqProofs only [go_sem, reduceEq, reduceLT, reduceLE, reduceToNat]
    rfl
  simp -implicitDefEqProofs only [go_sem, reduceEq, reduceLT, reduceLE, reduceToNat]
theorem c_laws_eqWhy : ∀ t, C E.P 36 [av (cWhy t), av (cWhy t)] [] (Eq2 (bv true) []) :=
  Why.ind fun r n t ks ih => c_laws_eqWhy1 _ ih
theorem c_laws_eqCaseS (ts : List Case) (hel : ∀ t ∈ ts, C E.P 14 [av (cCase t), av (cCase t)] [] (Eq2 (bv true) [])) : C E.P 39 [lv (rowsCase ts), lv (rowsCase ts)] [] (Eq2 (bv true) []) := by
  have hLB : LB = 1099511627776 := rfl
  refine C_goS (nt := 27) (rs := [.tmp 4]) hm Tryz.func39 rfl rfl rfl rfl rfl (fun hl he => ?_)
  simp -implicitDefEqProofs only [go_sem, reduceEq, reduceLT, reduceLE, reduceToNat] at hl ⊢
  refine loop_go1 hm (fun (i : Nat) =>  i ≤ ts.length) (fun (i : Nat) =>  ⟨mkS 27 .any [(0, lv (rowsCase ts)), (1, lv (rowsCase ts)), (5, iv i)], []⟩) (fun (i : Nat) =>  ts.length - i) (0) ?_ (weakS [] ?_ ?_ rfl rfl) ?_
  rotate_left
  · simp -implicitDefEqProofs only [go_sem, reduceEq, reduceLT, reduceLE, reduceToNat]
  · simp -implicitDefEqProofs only [go_sem, reduceEq, reduceLT, reduceLE, reduceToNat]
  rotate_left
  · omega
  · rintro i hi
    rcases Classical.em (i < ts.length) with h1 | h1
    · simp -implicitDefEqProofs only [go_sem, reduceEq, reduceLT, reduceLE, reduceToNat, h1]
      have hc := hel ts[i] (List.getElem_mem h1)
      have hcall := hc 
      refine atCall [] hcall ?_ ?_ <;> simp -implicitDefEqProofs only [go_sem, reduceEq, reduceLT, reduceLE, reduceToNat, h1]
      with_reducible refine ind_andM (by kernel_rfl) ?_
      repeat (with_reducible apply And.intro; case left => omega)
      refine ⟨i + 1, ?_, ?_, weakS [] ?_ ?_ rfl rfl⟩
      rotate_left
      · show _ < _
        omega
      · simp -implicitDefEqProofs only [go_sem, reduceEq, reduceLT, reduceLE, reduceToNat]
      · simp -implicitDefEqProofs only [go_sem, reduceEq, reduceLT, reduceLE, reduceToNat]
      exact h1
    · simp -implicitDefEqProofs only [go_sem, reduceEq, reduceLT, reduceLE, reduceToNat, h1]
      refine fin1 (ps := ?_) ?_ ?_
      rotate_left
      · simp -implicitDefEqProofs only [go_sem, reduceEq, reduceLT, reduceLE, reduceToNat]
        rfl
      simp -implicitDefEqProofs only [go_sem, reduceEq, reduceLT, reduceLE, reduceToNat]
theorem c_laws_eqCase1 (t : Case) (ih : ∀ k ∈ t.kids, C E.P 14 [av (cCase k), av (cCase k)] [] (Eq2 (bv true) [])) : C E.P 14 [av (cCase t), av (cCase t)] [] (Eq2 (bv true) []) := by
  have hLB : LB = 1099511627776 := rfl
  refine C_goS (nt := 45) (rs := [.tmp 4]) hm Tryz.func14 rfl rfl rfl rfl rfl (fun hl he => ?_)
  simp -implicitDefEqProofs only [go_sem, reduceEq, reduceLT, reduceLE, reduceToNat] at hl ⊢
  have hcall := c_laws_eqWhy t.why
  refine atCall [] hcall ?_ ?_ <;> simp -implicitDefEqProofs only [go_sem, reduceEq, reduceLT, reduceLE, reduceToNat]
  have hcall := c_laws_eqIntS t.times
  refine atCall [] hcall ?_ ?_ <;> simp -implicitDefEqProofs only [go_sem, reduceEq, reduceLT, reduceLE, reduceToNat]
  have hcall := c_laws_eqTerm t.A
  refine atCall [] hcall ?_ ?_ <;> simp -implicitDefEqProofs only [go_sem, reduceEq, reduceLT, reduceLE, reduceToNat]
  have hcall := c_laws_eqTerm t.B
  refine atCall [] hcall ?_ ?_ <;> simp -implicitDefEqProofs only [go_sem, reduceEq, reduceLT, reduceLE, reduceToNat]
  have hcall := c_laws_eqCaseS t.kids ih
  refine atCall [] hcall ?_ ?_ <;> simp -implicitDefEqProofs only [go_sem, reduceEq, reduceLT, reduceLE, reduceToNat]
  refine fin1 (ps := ?_) ?_ ?_
  rotate_left
  · simp -implicitDefEqProofs only [go_sem, reduceEq, reduceLT, reduceLE, reduceToNat]
    rfl
  simp -implicitDefEqProofs only [go_sem, reduceEq, reduceLT, reduceLE, reduceToNat]
theorem c_laws_eqCase : ∀ t, C E.P 14 [av (cCase t), av (cCase t)] [] (Eq2 (bv true) []) :=
  Case.ind fun k n w ts a b ks ih => c_laws_eqCase1 _ ih
end Go.Proofs.YtipaaldnhdjdeaaGreat
