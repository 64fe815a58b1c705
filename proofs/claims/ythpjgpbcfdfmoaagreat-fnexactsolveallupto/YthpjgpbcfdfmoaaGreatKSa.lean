/-
  The program: the walks of numbers. A step towards the exact laws. The reference: the walks of numbers. A step towards the exact laws.
-/
import Derived.Test.YthpjgpbcfdfmoaaGreatKSH
import Derived.Test.YthpjgpbcfdfmoaaGreatKSE
import Derived.Test.YthpjgpbcfdfmoaaGreatKSI
set_option linter.unusedVariables false
set_option linter.unusedSimpArgs false
namespace Go.Proofs.YthpjgpbcfdfmoaaGreat
open Go.Eng Go.Mod
open Int renaming reduceEq → Z1, reduceLT → Z2, reduceLE → Z3, reduceToNat → Z4
set_option maxRecDepth 100000
set_option maxHeartbeats 400000
theorem maxI_abs {n : Int} : (if n < -n then -n else n) = (n.natAbs : Int) := by split <;> omega
theorem c_impl_gcd (a b : Int) (ha : -4000000000000000000 ≤ a ∧ a ≤ 4000000000000000000) (hb : -4000000000000000000 ≤ b ∧ b ≤ 4000000000000000000) : C E.P 252 [iv a, iv b] [] (Eq2 (iv (Int.gcd a b : Int)) []) := by
  have hLB : LB = 1099511627776 := rfl
  refine C_goS (nt := 20) (rs := [.tmp 4]) hm Tryz.func252 rfl rfl rfl rfl rfl (fun hl he => ?_)
  simp -implicitDefEqProofs only [go_sem, Z1, Z2, Z3, Z4] at hl ⊢
  repeat (with_reducible apply And.intro; case left => omega)
  refine atMax a (-a) (a.natAbs : Int) maxI_abs (by simp -implicitDefEqProofs only [go_sem, Z1, Z2, Z3, Z4]) (by simp -implicitDefEqProofs only [go_sem, Z1, Z2, Z3, Z4]) ?_
  simp -implicitDefEqProofs only [go_sem, Z1, Z2, Z3, Z4]
  repeat (with_reducible apply And.intro; case left => omega)
  refine atMax b (-b) (b.natAbs : Int) maxI_abs (by simp -implicitDefEqProofs only [go_sem, Z1, Z2, Z3, Z4]) (by simp -implicitDefEqProofs only [go_sem, Z1, Z2, Z3, Z4]) ?_
  simp -implicitDefEqProofs only [go_sem, Z1, Z2, Z3, Z4]
  refine loop_go2 hm (fun (p : Int) (q : Int) =>  0 ≤ p ∧ 0 ≤ q ∧ Int.gcd p q = Int.gcd a b) (fun (p : Int) (q : Int) =>  ⟨mkS 20 .any [(0, iv p), (1, iv q)], []⟩) (fun (p : Int) (q : Int) =>  q.toNat) ((a.natAbs : Int)) ((b.natAbs : Int)) ?_ (weakS [] ?_ ?_ rfl rfl) ?_
  rotate_left
  · simp -implicitDefEqProofs only [go_sem, Z1, Z2, Z3, Z4]
  · simp -implicitDefEqProofs only [go_sem, Z1, Z2, Z3, Z4]
  rotate_left
  · exact ⟨by omega, by omega, by simp only [Int.gcd, Int.natAbs_natCast]⟩
  · rintro p q ⟨hp, hq, hg⟩
    rcases Classical.em (0 < q) with h1 | h1
    · have hs := gcd_step hp h1
      simp -implicitDefEqProofs only [go_sem, Z1, Z2, Z3, Z4, h1]
      repeat (first | with_reducible refine ind_andM (by kernel_rfl) ?_ | (with_reducible apply And.intro; case left => omega))
      refine ⟨q, p.tmod q, ?_, ?_, weakS [] ?_ ?_ rfl rfl⟩
      rotate_left
      · show _ < _
        omega
      · simp -implicitDefEqProofs only [go_sem, Z1, Z2, Z3, Z4]
      · simp -implicitDefEqProofs only [go_sem, Z1, Z2, Z3, Z4]
      exact ⟨hq, hs.1, by rw [hs.2.2, hg]⟩
    · have e : q = 0 := by omega
      subst e
      simp -implicitDefEqProofs only [go_sem, Z1, Z2, Z3, Z4, h1]
      refine fin1' ?_
      simp -implicitDefEqProofs only [go_sem, Z1, Z2, Z3, Z4]
      rw [← hg, gcd_zero hp]
theorem c_impl_RatOk (a : Mod.Rat) : C E.P 216 [av (cRat a)] [] (Eq2 (bv (ratOk a)) []) := by
  have hLB : LB = 1099511627776 := rfl
  refine C_goS (nt := 19) (rs := [.tmp 2]) hm Tryz.func216 rfl rfl rfl rfl rfl (fun hl he => ?_)
  simp -implicitDefEqProofs only [go_sem, Z1, Z2, Z3, Z4] at hl ⊢
  have hcall := c_impl_within a.N (-1000000000) 1000000000
  refine atCall [] hcall ?_ ?_ <;> simp -implicitDefEqProofs only [go_sem, Z1, Z2, Z3, Z4]
  cases h1 : within a.N (-1000000000) 1000000000
  · simp -implicitDefEqProofs only [go_sem, Z1, Z2, Z3, Z4]
    refine fin1' ?_
    simp -implicitDefEqProofs only [go_sem, Z1, Z2, Z3, Z4]
    all_goals (simp [ratOk, h1]; done)
  · simp -implicitDefEqProofs only [go_sem, Z1, Z2, Z3, Z4]
    have hcall := c_impl_within a.D 1 1000000000
    refine atCall [] hcall ?_ ?_ <;> simp -implicitDefEqProofs only [go_sem, Z1, Z2, Z3, Z4]
    cases h2 : within a.D 1 1000000000
    · simp -implicitDefEqProofs only [go_sem, Z1, Z2, Z3, Z4]
      refine fin1' ?_
      simp -implicitDefEqProofs only [go_sem, Z1, Z2, Z3, Z4]
      all_goals (simp [ratOk, h1, h2]; done)
    · have k1 := withinB_iff.1 h1
      have k2 := withinB_iff.1 h2
      simp -implicitDefEqProofs only [go_sem, Z1, Z2, Z3, Z4]
      have hcall := c_impl_gcd a.N a.D (by omega) (by omega)
      refine atCall [] hcall ?_ ?_ <;> simp -implicitDefEqProofs only [go_sem, Z1, Z2, Z3, Z4]
      refine fin1' ?_
      simp -implicitDefEqProofs only [go_sem, Z1, Z2, Z3, Z4]
      all_goals (simp [ratOk, h1, h2]; done)
theorem c_impl_ratOf (n d : Int) (hn : -2000000000000000000 ≤ n ∧ n ≤ 2000000000000000000) (hd : 1 ≤ d ∧ d ≤ 1000000000000000000) : C E.P 250 [iv n, iv d] [] (Eq2 (.tup [av (cRat (ratOf0 n d).1), bv (ratOf0 n d).2]) []) := by
  have e := ratOf0_pos (n := n) hd.1
  have hg := gcd_pos (n := n) (d := d) (by omega)
  have b1 := tdiv_bound hg hn
  have b2 := tdiv_bound (n := d) (k := 1000000000000000000) hg (by omega)
  have hne : ¬ (Int.gcd n d : Int) = 0 := by omega
  have h0 : ¬ d = 0 := by omega
  have h1 : ¬ d < 0 := by omega
  have hLB : LB = 1099511627776 := rfl
  refine C_goS (nt := 32) (rs := [.cell 4 141, .tmp 5]) hm Tryz.func250 rfl rfl rfl rfl rfl (fun hl he => ?_)
  simp -implicitDefEqProofs only [go_sem, Z1, Z2, Z3, Z4] at hl ⊢
  simp -implicitDefEqProofs only [go_sem, Z1, Z2, Z3, Z4, h0, h1]
  have hcall := c_impl_gcd n d (by omega) (by omega)
  refine atCall [] hcall ?_ ?_ <;> simp -implicitDefEqProofs only [go_sem, Z1, Z2, Z3, Z4]
  repeat (first | with_reducible refine ind_andM (by kernel_rfl) ?_ | (with_reducible apply And.intro; case left => omega))
  have hcall := c_impl_RatOk ⟨n.tdiv (Int.gcd n d), d.tdiv (Int.gcd n d)⟩
  refine atCall [] hcall ?_ ?_ <;> simp -implicitDefEqProofs only [go_sem, Z1, Z2, Z3, Z4]
  cases h2 : ratOk ⟨n.tdiv (Int.gcd n d), d.tdiv (Int.gcd n d)⟩
  · simp -implicitDefEqProofs only [go_sem, Z1, Z2, Z3, Z4]
    refine fin1' ?_
    simp -implicitDefEqProofs only [go_sem, Z1, Z2, Z3, Z4]
    all_goals (simp [e, h2]; done)
  · simp -implicitDefEqProofs only [go_sem, Z1, Z2, Z3, Z4]
    refine fin1' ?_
    simp -implicitDefEqProofs only [go_sem, Z1, Z2, Z3, Z4]
    all_goals (simp [e, h2]; done)
theorem rat_sumI {a b : Mod.Rat} (ha : ratOk a = true) (hb : ratOk b = true) : (-1000000000000000000 ≤ a.N * b.D ∧ a.N * b.D ≤ 1000000000000000000) ∧ (-1000000000000000000 ≤ b.N * a.D ∧ b.N * a.D ≤ 1000000000000000000) ∧ (1 ≤ a.D * b.D ∧ a.D * b.D ≤ 1000000000000000000) ∧ (-1000000000000000000 ≤ a.N * b.N ∧ a.N * b.N ≤ 1000000000000000000) := by
  rw [ratOk_iff] at ha hb
  exact ⟨prod_rat ha.1 (by omega), prod_rat hb.1 (by omega), pos_rat ha.2.1 hb.2.1, prod_rat ha.1 hb.1⟩
theorem c_impl_RatAdd (a b : Mod.Rat) : C E.P 210 [av (cRat a), av (cRat b)] [] (Eq2 (.tup [av (cRat (ratAdd a b).1), bv (ratAdd a b).2]) []) := by
  have hLB : LB = 1099511627776 := rfl
  refine C_goS (nt := 34) (rs := [.cell 4 141, .tmp 5]) hm Tryz.func210 rfl rfl rfl rfl rfl (fun hl he => ?_)
  simp -implicitDefEqProofs only [go_sem, Z1, Z2, Z3, Z4] at hl ⊢
  have hcall := c_impl_RatOk a
  refine atCall [] hcall ?_ ?_ <;> simp -implicitDefEqProofs only [go_sem, Z1, Z2, Z3, Z4]
  cases h1 : ratOk a
  · simp -implicitDefEqProofs only [go_sem, Z1, Z2, Z3, Z4]
    refine fin1' ?_
    simp -implicitDefEqProofs only [go_sem, Z1, Z2, Z3, Z4]
    all_goals (simp [ratAdd, h1]; done)
  · simp -implicitDefEqProofs only [go_sem, Z1, Z2, Z3, Z4]
    have hcall := c_impl_RatOk b
    refine atCall [] hcall ?_ ?_ <;> simp -implicitDefEqProofs only [go_sem, Z1, Z2, Z3, Z4]
    cases h2 : ratOk b
    · simp -implicitDefEqProofs only [go_sem, Z1, Z2, Z3, Z4]
      refine fin1' ?_
      simp -implicitDefEqProofs only [go_sem, Z1, Z2, Z3, Z4]
      all_goals (simp [ratAdd, h1, h2]; done)
    · obtain ⟨q1, q2, q3, q4⟩ := rat_sumI h1 h2
      simp -implicitDefEqProofs only [go_sem, Z1, Z2, Z3, Z4]
      repeat (with_reducible apply And.intro; case left => omega)
      have hcall := c_impl_ratOf (a.N * b.D + b.N * a.D) (a.D * b.D) (by omega) (by omega)
      refine atCall [] hcall ?_ ?_ <;> simp -implicitDefEqProofs only [go_sem, Z1, Z2, Z3, Z4]
      refine fin1' ?_
      simp -implicitDefEqProofs only [go_sem, Z1, Z2, Z3, Z4]
      all_goals (simp [ratAdd, h1, h2]; done)
theorem c_impl_RatMul (a b : Mod.Rat) : C E.P 209 [av (cRat a), av (cRat b)] [] (Eq2 (.tup [av (cRat (ratMul a b).1), bv (ratMul a b).2]) []) := by
  have hLB : LB = 1099511627776 := rfl
  refine C_goS (nt := 28) (rs := [.cell 4 141, .tmp 5]) hm Tryz.func209 rfl rfl rfl rfl rfl (fun hl he => ?_)
  simp -implicitDefEqProofs only [go_sem, Z1, Z2, Z3, Z4] at hl ⊢
  have hcall := c_impl_RatOk a
  refine atCall [] hcall ?_ ?_ <;> simp -implicitDefEqProofs only [go_sem, Z1, Z2, Z3, Z4]
  cases h1 : ratOk a
  · simp -implicitDefEqProofs only [go_sem, Z1, Z2, Z3, Z4]
    refine fin1' ?_
    simp -implicitDefEqProofs only [go_sem, Z1, Z2, Z3, Z4]
    all_goals (simp [ratMul, h1]; done)
  · simp -implicitDefEqProofs only [go_sem, Z1, Z2, Z3, Z4]
    have hcall := c_impl_RatOk b
    refine atCall [] hcall ?_ ?_ <;> simp -implicitDefEqProofs only [go_sem, Z1, Z2, Z3, Z4]
    cases h2 : ratOk b
    · simp -implicitDefEqProofs only [go_sem, Z1, Z2, Z3, Z4]
      refine fin1' ?_
      simp -implicitDefEqProofs only [go_sem, Z1, Z2, Z3, Z4]
      all_goals (simp [ratMul, h1, h2]; done)
    · obtain ⟨q1, q2, q3, q4⟩ := rat_sumI h1 h2
      simp -implicitDefEqProofs only [go_sem, Z1, Z2, Z3, Z4]
      repeat (with_reducible apply And.intro; case left => omega)
      have hcall := c_impl_ratOf (a.N * b.N) (a.D * b.D) (by omega) (by omega)
      refine atCall [] hcall ?_ ?_ <;> simp -implicitDefEqProofs only [go_sem, Z1, Z2, Z3, Z4]
      refine fin1' ?_
      simp -implicitDefEqProofs only [go_sem, Z1, Z2, Z3, Z4]
      all_goals (simp [ratMul, h1, h2]; done)
theorem c_impl_RatLess (a b : Mod.Rat) : C E.P 211 [av (cRat a), av (cRat b)] [] (Eq2 (bv (ratLess a b)) []) := by
  have hLB : LB = 1099511627776 := rfl
  refine C_goS (nt := 24) (rs := [.tmp 4]) hm Tryz.func211 rfl rfl rfl rfl rfl (fun hl he => ?_)
  simp -implicitDefEqProofs only [go_sem, Z1, Z2, Z3, Z4] at hl ⊢
  have hcall := c_impl_RatOk a
  refine atCall [] hcall ?_ ?_ <;> simp -implicitDefEqProofs only [go_sem, Z1, Z2, Z3, Z4]
  cases h1 : ratOk a
  · simp -implicitDefEqProofs only [go_sem, Z1, Z2, Z3, Z4]
    refine fin1' ?_
    simp -implicitDefEqProofs only [go_sem, Z1, Z2, Z3, Z4]
    all_goals (simp [ratLess, h1]; done)
  · simp -implicitDefEqProofs only [go_sem, Z1, Z2, Z3, Z4]
    have hcall := c_impl_RatOk b
    refine atCall [] hcall ?_ ?_ <;> simp -implicitDefEqProofs only [go_sem, Z1, Z2, Z3, Z4]
    cases h2 : ratOk b
    · simp -implicitDefEqProofs only [go_sem, Z1, Z2, Z3, Z4]
      refine fin1' ?_
      simp -implicitDefEqProofs only [go_sem, Z1, Z2, Z3, Z4]
      all_goals (simp [ratLess, h1, h2]; done)
    · obtain ⟨q1, q2, q3, q4⟩ := rat_sumI h1 h2
      simp -implicitDefEqProofs only [go_sem, Z1, Z2, Z3, Z4]
      repeat (with_reducible apply And.intro; case left => omega)
      refine fin1' ?_
      simp -implicitDefEqProofs only [go_sem, Z1, Z2, Z3, Z4]
      all_goals (simp [ratLess, h1, h2]; done)
theorem c_impl_whole (n : Int) : C E.P 146 [iv n] [] (Eq2 (av (cRat (whole n))) []) := by
  have hLB : LB = 1099511627776 := rfl
  refine C_goS (nt := 5) (rs := [.cell 2 141]) hm Tryz.func146 rfl rfl rfl rfl rfl (fun hl he => ?_)
  simp -implicitDefEqProofs only [go_sem, Z1, Z2, Z3, Z4] at hl ⊢
  refine fin1' ?_
  simp -implicitDefEqProofs only [go_sem, Z1, Z2, Z3, Z4]
  all_goals (simp [whole]; done)
theorem c_impl_plus (sum : Mod.Rat) (c : Int) (v : Mod.Rat) : C E.P 147 [av (cRat sum), iv c, av (cRat v)] [] (Eq2 (.tup [av (cRat (plus sum c v).1), bv (plus sum c v).2]) []) := by
  have hLB : LB = 1099511627776 := rfl
  refine C_goS (nt := 25) (rs := [.cell 6 141, .tmp 7]) hm Tryz.func147 rfl rfl rfl rfl rfl (fun hl he => ?_)
  simp -implicitDefEqProofs only [go_sem, Z1, Z2, Z3, Z4] at hl ⊢
  have hcall := c_impl_whole c
  refine atCall [] hcall ?_ ?_ <;> simp -implicitDefEqProofs only [go_sem, Z1, Z2, Z3, Z4]
  have hcall := c_impl_RatMul (whole c) v
  refine atCall [] hcall ?_ ?_ <;> simp -implicitDefEqProofs only [go_sem, Z1, Z2, Z3, Z4]
  with_reducible refine ind_andM (by kernel_rfl) ?_
  cases h1 : (ratMul (whole c) v).2
  · simp -implicitDefEqProofs only [go_sem, Z1, Z2, Z3, Z4]
    refine fin1' ?_
    simp -implicitDefEqProofs only [go_sem, Z1, Z2, Z3, Z4]
    all_goals (simp [plus, h1]; done)
  · simp -implicitDefEqProofs only [go_sem, Z1, Z2, Z3, Z4]
    have hcall := c_impl_RatAdd sum (ratMul (whole c) v).1
    refine atCall [] hcall ?_ ?_ <;> simp -implicitDefEqProofs only [go_sem, Z1, Z2, Z3, Z4]
    refine fin1' ?_
    simp -implicitDefEqProofs only [go_sem, Z1, Z2, Z3, Z4]
    all_goals (simp [plus, h1]; done)
theorem c_impl_below (a : Mod.Rat) (bound : Int) (strict : Bool) : C E.P 148 [av (cRat a), iv bound, bv strict] [] (Eq2 (bv (below a bound strict)) []) := by
  have hLB : LB = 1099511627776 := rfl
  refine C_goS (nt := 17) (rs := [.tmp 6]) hm Tryz.func148 rfl rfl rfl rfl rfl (fun hl he => ?_)
  simp -implicitDefEqProofs only [go_sem, Z1, Z2, Z3, Z4] at hl ⊢
  cases strict
  · simp -implicitDefEqProofs only [go_sem, Z1, Z2, Z3, Z4]
    have hcall := c_impl_whole bound
    refine atCall [] hcall ?_ ?_ <;> simp -implicitDefEqProofs only [go_sem, Z1, Z2, Z3, Z4]
    have hcall := c_impl_RatLess (whole bound) a
    refine atCall [] hcall ?_ ?_ <;> simp -implicitDefEqProofs only [go_sem, Z1, Z2, Z3, Z4]
    with_reducible refine ind_andM (by kernel_rfl) ?_
    refine fin1' ?_
    simp -implicitDefEqProofs only [go_sem, Z1, Z2, Z3, Z4]
    all_goals (simp [below]; done)
  · simp -implicitDefEqProofs only [go_sem, Z1, Z2, Z3, Z4]
    have hcall := c_impl_whole bound
    refine atCall [] hcall ?_ ?_ <;> simp -implicitDefEqProofs only [go_sem, Z1, Z2, Z3, Z4]
    have hcall := c_impl_RatLess a (whole bound)
    refine atCall [] hcall ?_ ?_ <;> simp -implicitDefEqProofs only [go_sem, Z1, Z2, Z3, Z4]
    with_reducible refine ind_andM (by kernel_rfl) ?_
    refine fin1' ?_
    simp -implicitDefEqProofs only [go_sem, Z1, Z2, Z3, Z4]
    all_goals (simp [below]; done)
end Go.Proofs.YthpjgpbcfdfmoaaGreat
namespace Go.Proofs.YthpjgpbcfdfmoaaGreat
open Go.Eng Go.Mod
open Int renaming reduceEq → Z1, reduceLT → Z2, reduceLE → Z3, reduceToNat → Z4
set_option maxRecDepth 100000
set_option maxHeartbeats 400000
theorem c_spec_l1Abs (n : Int) : C E.P 195 [iv n] [] (Eq2 (iv (abs1 n)) []) := by
  have hLB : LB = 1099511627776 := rfl
  refine C_goS (nt := 14) (rs := [.tmp 2]) hm Tryz.func195 rfl rfl rfl rfl rfl (fun hl he => ?_)
  simp -implicitDefEqProofs only [go_sem, Z1, Z2, Z3, Z4] at hl ⊢
  rcases Classical.em (n < -1000000000) with h1 | h1
  · simp -implicitDefEqProofs only [go_sem, Z1, Z2, Z3, Z4, h1]
    refine fin1' ?_
    simp -implicitDefEqProofs only [go_sem, Z1, Z2, Z3, Z4]
    all_goals (simp [abs1, h1]; done)
  · rcases Classical.em (1000000000 < n) with h2 | h2
    · simp -implicitDefEqProofs only [go_sem, Z1, Z2, Z3, Z4, h1, h2]
      refine fin1' ?_
      simp -implicitDefEqProofs only [go_sem, Z1, Z2, Z3, Z4]
      all_goals (simp [abs1, h1, h2]; done)
    · rcases Classical.em (n < 0) with h3 | h3
      · simp -implicitDefEqProofs only [go_sem, Z1, Z2, Z3, Z4, h1, h2, h3]
        repeat (with_reducible apply And.intro; case left => omega)
        refine fin1' ?_
        simp -implicitDefEqProofs only [go_sem, Z1, Z2, Z3, Z4]
        all_goals (simp [abs1, h1, h2, h3]; done)
      · simp -implicitDefEqProofs only [go_sem, Z1, Z2, Z3, Z4, h1, h2, h3]
        refine fin1' ?_
        simp -implicitDefEqProofs only [go_sem, Z1, Z2, Z3, Z4]
        all_goals (simp [abs1, h1, h2, h3]; done)
theorem c_spec_l1Gcd (a b : Int) (ha : 0 ≤ a) (hb : 0 ≤ b) : C E.P 196 [iv a, iv b] [] (Eq2 (iv (Int.gcd a b : Int)) []) := by
  have hLB : LB = 1099511627776 := rfl
  refine C_goS (nt := 12) (rs := [.tmp 4]) hm Tryz.func196 rfl rfl rfl rfl rfl (fun hl he => ?_)
  simp -implicitDefEqProofs only [go_sem, Z1, Z2, Z3, Z4] at hl ⊢
  refine loop_go2 hm (fun (p : Int) (q : Int) =>  0 ≤ p ∧ 0 ≤ q ∧ Int.gcd p q = Int.gcd a b) (fun (p : Int) (q : Int) =>  ⟨mkS 12 .any [(0, iv p), (1, iv q)], []⟩) (fun (p : Int) (q : Int) =>  q.toNat) (a) (b) ?_ (weakS [] ?_ ?_ rfl rfl) ?_
  rotate_left
  · simp -implicitDefEqProofs only [go_sem, Z1, Z2, Z3, Z4]
  · simp -implicitDefEqProofs only [go_sem, Z1, Z2, Z3, Z4]
  rotate_left
  · exact ⟨ha, hb, rfl⟩
  · rintro p q ⟨hp, hq, hg⟩
    rcases Classical.em (0 < q) with h1 | h1
    · have hs := gcd_step hp h1
      simp -implicitDefEqProofs only [go_sem, Z1, Z2, Z3, Z4, h1]
      repeat (first | with_reducible refine ind_andM (by kernel_rfl) ?_ | (with_reducible apply And.intro; case left => omega))
      refine ⟨q, p.tmod q, ?_, ?_, weakS [] ?_ ?_ rfl rfl⟩
      rotate_left
      · show _ < _
        omega
      · simp -implicitDefEqProofs only [go_sem, Z1, Z2, Z3, Z4]
      · simp -implicitDefEqProofs only [go_sem, Z1, Z2, Z3, Z4]
      exact ⟨hq, hs.1, by rw [hs.2.2, hg]⟩
    · have e : q = 0 := by omega
      subst e
      simp -implicitDefEqProofs only [go_sem, Z1, Z2, Z3, Z4, h1]
      refine fin1' ?_
      simp -implicitDefEqProofs only [go_sem, Z1, Z2, Z3, Z4]
      rw [← hg, gcd_zero hp]
theorem ratOk_abs (a : Mod.Rat) : ratOk a = (decide (abs1 a.N ≤ 1000000000) && (decide (1 ≤ a.D) && (decide (a.D ≤ 1000000000) && decide ((Int.gcd (abs1 a.N) a.D : Int) = 1)))) := by
  cases h : ratOk a
  · symm
    rw [Bool.eq_false_iff] at h ⊢
    intro hh
    apply h
    simp only [Bool.and_eq_true, decide_eq_true_eq, abs1_le] at hh
    rw [ratOk_iff]
    refine ⟨hh.1, ⟨hh.2.1, hh.2.2.1⟩, ?_⟩
    have := abs1_gcd hh.1 a.D
    omega
  · symm
    rw [ratOk_iff] at h
    simp only [Bool.and_eq_true, decide_eq_true_eq, abs1_le]
    refine ⟨h.1, h.2.1.1, h.2.1.2, ?_⟩
    rw [abs1_gcd h.1, h.2.2]
    rfl
theorem c_spec_RatOk (a : Mod.Rat) : C E.P 127 [av (cRat a)] [] (Eq2 (bv (ratOk a)) []) := by
  have e := ratOk_abs a
  have hLB : LB = 1099511627776 := rfl
  refine C_goS (nt := 26) (rs := [.tmp 2]) hm Tryz.func127 rfl rfl rfl rfl rfl (fun hl he => ?_)
  simp -implicitDefEqProofs only [go_sem, Z1, Z2, Z3, Z4] at hl ⊢
  have hcall := c_spec_l1Abs a.N
  refine atCall [] hcall ?_ ?_ <;> simp -implicitDefEqProofs only [go_sem, Z1, Z2, Z3, Z4]
  rcases Classical.em (abs1 a.N ≤ 1000000000) with h1 | h1
  · simp -implicitDefEqProofs only [go_sem, Z1, Z2, Z3, Z4, h1]
    rcases Classical.em ((1 : Int) ≤ a.D) with h2 | h2
    · simp -implicitDefEqProofs only [go_sem, Z1, Z2, Z3, Z4, h2]
      rcases Classical.em (a.D ≤ 1000000000) with h3 | h3
      · simp -implicitDefEqProofs only [go_sem, Z1, Z2, Z3, Z4, h3]
        have hcall := c_spec_l1Abs a.N
        refine atCall [] hcall ?_ ?_ <;> simp -implicitDefEqProofs only [go_sem, Z1, Z2, Z3, Z4]
        have hcall := c_spec_l1Gcd (abs1 a.N) a.D (abs1_nn _) (by omega)
        refine atCall [] hcall ?_ ?_ <;> simp -implicitDefEqProofs only [go_sem, Z1, Z2, Z3, Z4]
        with_reducible refine ind_andM (by kernel_rfl) ?_
        refine fin1' ?_
        simp -implicitDefEqProofs only [go_sem, Z1, Z2, Z3, Z4]
        all_goals (simp [e, h1, h2, h3]; done)
      · simp -implicitDefEqProofs only [go_sem, Z1, Z2, Z3, Z4, h3]
        with_reducible refine ind_andM (by kernel_rfl) ?_
        refine fin1' ?_
        simp -implicitDefEqProofs only [go_sem, Z1, Z2, Z3, Z4]
        all_goals (simp [e, h3]; done)
    · simp -implicitDefEqProofs only [go_sem, Z1, Z2, Z3, Z4, h2]
      with_reducible refine ind_andM (by kernel_rfl) ?_
      refine fin1' ?_
      simp -implicitDefEqProofs only [go_sem, Z1, Z2, Z3, Z4]
      all_goals (simp [e, h2]; done)
  · simp -implicitDefEqProofs only [go_sem, Z1, Z2, Z3, Z4, h1]
    with_reducible refine ind_andM (by kernel_rfl) ?_
    refine fin1' ?_
    simp -implicitDefEqProofs only [go_sem, Z1, Z2, Z3, Z4]
    all_goals (simp [e, h1]; done)
theorem c_spec_l1Least (n d : Int) (hn : -2000000000000000000 ≤ n ∧ n ≤ 2000000000000000000) (hd : 1 ≤ d ∧ d ≤ 1000000000000000000) : C E.P 194 [iv n, iv d] [] (Eq2 (.tup [av (cRat (ratOf0 n d).1), bv (ratOf0 n d).2]) []) := by
  have e := ratOf0_pos (n := n) hd.1
  have hg := gcd_pos (n := n) (d := d) (by omega)
  have b1 := tdiv_bound hg hn
  have b2 := tdiv_bound (n := d) (k := 1000000000000000000) hg (by omega)
  have hne : ¬ (Int.gcd n d : Int) = 0 := by omega
  have hLB : LB = 1099511627776 := rfl
  refine C_goS (nt := 29) (rs := [.cell 4 141, .tmp 5]) hm Tryz.func194 rfl rfl rfl rfl rfl (fun hl he => ?_)
  simp -implicitDefEqProofs only [go_sem, Z1, Z2, Z3, Z4] at hl ⊢
  rcases Classical.em (n < 0) with h1 | h1
  · have eg : (Int.gcd (-n) d : Int) = Int.gcd n d := by rw [gcd_neg_left]
    simp -implicitDefEqProofs only [go_sem, Z1, Z2, Z3, Z4, h1]
    repeat (with_reducible apply And.intro; case left => omega)
    have hcall := c_spec_l1Gcd (-n) d (by omega) (by omega)
    refine atCall [] hcall ?_ ?_ <;> simp -implicitDefEqProofs only [go_sem, Z1, Z2, Z3, Z4, eg]
    repeat (first | with_reducible refine ind_andM (by kernel_rfl) ?_ | (with_reducible apply And.intro; case left => omega))
    have hcall := c_spec_RatOk ⟨n.tdiv (Int.gcd n d), d.tdiv (Int.gcd n d)⟩
    refine atCall [] hcall ?_ ?_ <;> simp -implicitDefEqProofs only [go_sem, Z1, Z2, Z3, Z4]
    cases h2 : ratOk ⟨n.tdiv (Int.gcd n d), d.tdiv (Int.gcd n d)⟩
    · simp -implicitDefEqProofs only [go_sem, Z1, Z2, Z3, Z4]
      refine fin1' ?_
      simp -implicitDefEqProofs only [go_sem, Z1, Z2, Z3, Z4]
      all_goals (simp [e, h2]; done)
    · simp -implicitDefEqProofs only [go_sem, Z1, Z2, Z3, Z4]
      refine fin1' ?_
      simp -implicitDefEqProofs only [go_sem, Z1, Z2, Z3, Z4]
      all_goals (simp [e, h2]; done)
  · simp -implicitDefEqProofs only [go_sem, Z1, Z2, Z3, Z4, h1]
    have hcall := c_spec_l1Gcd n d (by omega) (by omega)
    refine atCall [] hcall ?_ ?_ <;> simp -implicitDefEqProofs only [go_sem, Z1, Z2, Z3, Z4]
    repeat (first | with_reducible refine ind_andM (by kernel_rfl) ?_ | (with_reducible apply And.intro; case left => omega))
    have hcall := c_spec_RatOk ⟨n.tdiv (Int.gcd n d), d.tdiv (Int.gcd n d)⟩
    refine atCall [] hcall ?_ ?_ <;> simp -implicitDefEqProofs only [go_sem, Z1, Z2, Z3, Z4]
    cases h2 : ratOk ⟨n.tdiv (Int.gcd n d), d.tdiv (Int.gcd n d)⟩
    · simp -implicitDefEqProofs only [go_sem, Z1, Z2, Z3, Z4]
      refine fin1' ?_
      simp -implicitDefEqProofs only [go_sem, Z1, Z2, Z3, Z4]
      all_goals (simp [e, h2]; done)
    · simp -implicitDefEqProofs only [go_sem, Z1, Z2, Z3, Z4]
      refine fin1' ?_
      simp -implicitDefEqProofs only [go_sem, Z1, Z2, Z3, Z4]
      all_goals (simp [e, h2]; done)
theorem rat_sum {a b : Mod.Rat} (ha : ratOk a = true) (hb : ratOk b = true) : (-1000000000000000000 ≤ a.N * b.D ∧ a.N * b.D ≤ 1000000000000000000) ∧ (-1000000000000000000 ≤ b.N * a.D ∧ b.N * a.D ≤ 1000000000000000000) ∧ (1 ≤ a.D * b.D ∧ a.D * b.D ≤ 1000000000000000000) ∧ (-1000000000000000000 ≤ a.N * b.N ∧ a.N * b.N ≤ 1000000000000000000) := by
  rw [ratOk_iff] at ha hb
  exact ⟨prod_rat ha.1 (by omega), prod_rat hb.1 (by omega), pos_rat ha.2.1 hb.2.1, prod_rat ha.1 hb.1⟩
theorem c_spec_RatAdd (a b : Mod.Rat) : C E.P 126 [av (cRat a), av (cRat b)] [] (Eq2 (.tup [av (cRat (ratAdd a b).1), bv (ratAdd a b).2]) []) := by
  have hLB : LB = 1099511627776 := rfl
  refine C_goS (nt := 34) (rs := [.cell 4 141, .tmp 5]) hm Tryz.func126 rfl rfl rfl rfl rfl (fun hl he => ?_)
  simp -implicitDefEqProofs only [go_sem, Z1, Z2, Z3, Z4] at hl ⊢
  have hcall := c_spec_RatOk a
  refine atCall [] hcall ?_ ?_ <;> simp -implicitDefEqProofs only [go_sem, Z1, Z2, Z3, Z4]
  cases h1 : ratOk a
  · simp -implicitDefEqProofs only [go_sem, Z1, Z2, Z3, Z4]
    refine fin1' ?_
    simp -implicitDefEqProofs only [go_sem, Z1, Z2, Z3, Z4]
    all_goals (simp [ratAdd, h1]; done)
  · simp -implicitDefEqProofs only [go_sem, Z1, Z2, Z3, Z4]
    have hcall := c_spec_RatOk b
    refine atCall [] hcall ?_ ?_ <;> simp -implicitDefEqProofs only [go_sem, Z1, Z2, Z3, Z4]
    cases h2 : ratOk b
    · simp -implicitDefEqProofs only [go_sem, Z1, Z2, Z3, Z4]
      refine fin1' ?_
      simp -implicitDefEqProofs only [go_sem, Z1, Z2, Z3, Z4]
      all_goals (simp [ratAdd, h1, h2]; done)
    · obtain ⟨q1, q2, q3, q4⟩ := rat_sum h1 h2
      simp -implicitDefEqProofs only [go_sem, Z1, Z2, Z3, Z4]
      repeat (with_reducible apply And.intro; case left => omega)
      have hcall := c_spec_l1Least (a.N * b.D + b.N * a.D) (a.D * b.D) (by omega) (by omega)
      refine atCall [] hcall ?_ ?_ <;> simp -implicitDefEqProofs only [go_sem, Z1, Z2, Z3, Z4]
      refine fin1' ?_
      simp -implicitDefEqProofs only [go_sem, Z1, Z2, Z3, Z4]
      all_goals (simp [ratAdd, h1, h2]; done)
theorem c_spec_RatMul (a b : Mod.Rat) : C E.P 125 [av (cRat a), av (cRat b)] [] (Eq2 (.tup [av (cRat (ratMul a b).1), bv (ratMul a b).2]) []) := by
  have hLB : LB = 1099511627776 := rfl
  refine C_goS (nt := 28) (rs := [.cell 4 141, .tmp 5]) hm Tryz.func125 rfl rfl rfl rfl rfl (fun hl he => ?_)
  simp -implicitDefEqProofs only [go_sem, Z1, Z2, Z3, Z4] at hl ⊢
  have hcall := c_spec_RatOk a
  refine atCall [] hcall ?_ ?_ <;> simp -implicitDefEqProofs only [go_sem, Z1, Z2, Z3, Z4]
  cases h1 : ratOk a
  · simp -implicitDefEqProofs only [go_sem, Z1, Z2, Z3, Z4]
    refine fin1' ?_
    simp -implicitDefEqProofs only [go_sem, Z1, Z2, Z3, Z4]
    all_goals (simp [ratMul, h1]; done)
  · simp -implicitDefEqProofs only [go_sem, Z1, Z2, Z3, Z4]
    have hcall := c_spec_RatOk b
    refine atCall [] hcall ?_ ?_ <;> simp -implicitDefEqProofs only [go_sem, Z1, Z2, Z3, Z4]
    cases h2 : ratOk b
    · simp -implicitDefEqProofs only [go_sem, Z1, Z2, Z3, Z4]
      refine fin1' ?_
      simp -implicitDefEqProofs only [go_sem, Z1, Z2, Z3, Z4]
      all_goals (simp [ratMul, h1, h2]; done)
    · obtain ⟨q1, q2, q3, q4⟩ := rat_sum h1 h2
      simp -implicitDefEqProofs only [go_sem, Z1, Z2, Z3, Z4]
      repeat (with_reducible apply And.intro; case left => omega)
      have hcall := c_spec_l1Least (a.N * b.N) (a.D * b.D) (by omega) (by omega)
      refine atCall [] hcall ?_ ?_ <;> simp -implicitDefEqProofs only [go_sem, Z1, Z2, Z3, Z4]
      refine fin1' ?_
      simp -implicitDefEqProofs only [go_sem, Z1, Z2, Z3, Z4]
      all_goals (simp [ratMul, h1, h2]; done)
theorem c_spec_RatLess (a b : Mod.Rat) : C E.P 72 [av (cRat a), av (cRat b)] [] (Eq2 (bv (ratLess a b)) []) := by
  have hLB : LB = 1099511627776 := rfl
  refine C_goS (nt := 24) (rs := [.tmp 4]) hm Tryz.func72 rfl rfl rfl rfl rfl (fun hl he => ?_)
  simp -implicitDefEqProofs only [go_sem, Z1, Z2, Z3, Z4] at hl ⊢
  have hcall := c_spec_RatOk a
  refine atCall [] hcall ?_ ?_ <;> simp -implicitDefEqProofs only [go_sem, Z1, Z2, Z3, Z4]
  cases h1 : ratOk a
  · simp -implicitDefEqProofs only [go_sem, Z1, Z2, Z3, Z4]
    refine fin1' ?_
    simp -implicitDefEqProofs only [go_sem, Z1, Z2, Z3, Z4]
    all_goals (simp [ratLess, h1]; done)
  · simp -implicitDefEqProofs only [go_sem, Z1, Z2, Z3, Z4]
    have hcall := c_spec_RatOk b
    refine atCall [] hcall ?_ ?_ <;> simp -implicitDefEqProofs only [go_sem, Z1, Z2, Z3, Z4]
    cases h2 : ratOk b
    · simp -implicitDefEqProofs only [go_sem, Z1, Z2, Z3, Z4]
      refine fin1' ?_
      simp -implicitDefEqProofs only [go_sem, Z1, Z2, Z3, Z4]
      all_goals (simp [ratLess, h1, h2]; done)
    · obtain ⟨q1, q2, q3, q4⟩ := rat_sum h1 h2
      simp -implicitDefEqProofs only [go_sem, Z1, Z2, Z3, Z4]
      repeat (with_reducible apply And.intro; case left => omega)
      refine fin1' ?_
      simp -implicitDefEqProofs only [go_sem, Z1, Z2, Z3, Z4]
      all_goals (simp [ratLess, h1, h2]; done)
end Go.Proofs.YthpjgpbcfdfmoaaGreat
