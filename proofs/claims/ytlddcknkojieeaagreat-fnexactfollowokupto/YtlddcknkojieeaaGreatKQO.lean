/-
  The walk of certificates. A step towards the exact laws.
-/
import Derived.Test.YtlddcknkojieeaaGreatKQN
set_option linter.unusedVariables false
set_option linter.unusedSimpArgs false
namespace Go.Proofs.YtlddcknkojieeaaGreat
open Go.Eng Go.Mod
open Int renaming reduceEq → Z1,reduceLT → Z2,reduceLE → Z3,reduceToNat → Z4
set_option maxRecDepth 100000
set_option maxHeartbeats 400000
theorem c_impl_BothOk (s:Sig) (lits:List LitD):C E.P 65 [av (cSig s),lv (rowsLit lits)] [] (Eq2 (bv (bothOk s lits)) []):=by
 have hLB:=LB_eq
 refine C_goS (nt:=38) (rs:=[.tmp 4]) hm Tryz.func65 rfl rfl rfl rfl rfl (fun hl he=>?_)
 simp -implicitDefEqProofs only [go_sem] at hl ⊢
 refine atCall [] (c_impl_SigOk s) ?_ ?_ <;> simp -implicitDefEqProofs only [go_sem]
 cases h1:sigOk s
 ·simp -implicitDefEqProofs only [go_sem]
  refine fin1' ?_
  simp -implicitDefEqProofs only [go_sem]
  all_goals (simp [bothOk,h1]; done)
 ·simp -implicitDefEqProofs only [go_sem]
  rcases Classical.em ((6:Int) < (lits.length:Int)) with h2 | h2
  ·have h2':¬ lits.length ≤ 6:=by omega
   simp -implicitDefEqProofs only [go_sem,h2]
   refine fin1' ?_
   simp -implicitDefEqProofs only [go_sem]
   all_goals (simp [bothOk,h2']; done)
  ·have h2':lits.length ≤ 6:=by omega
   simp -implicitDefEqProofs only [go_sem,h2]
   refine loop_go1 hm (fun (i:Nat)=> i ≤ lits.length ∧ lits.all (fun l=>atomOk s l.atom) = (lits.drop i).all (fun l=>atomOk s l.atom)) (fun (i:Nat)=> ⟨mkS 38 .any [(1,lv (rowsLit lits)),(2,.ptr 0 0),(15,lv (rowsLit lits)),(16,iv lits.length),(17,iv i)],[some (.box (pvs (cSig s)))]⟩) (fun (i:Nat)=> lits.length - i) (0) ?_ (weakS [some 0] ?_ ?_ rfl rfl) ?_
   rotate_left
   ·simp -implicitDefEqProofs only [go_sem]
   ·simp -implicitDefEqProofs only [go_sem]
   rotate_left
   ·simp
   ·rintro i ⟨hi,hg⟩
    rcases Classical.em (i < lits.length) with h3 | h3
    ·rw [List.drop_eq_getElem_cons h3,List.all_cons] at hg
     simp -implicitDefEqProofs only [go_sem,h3]
     refine atCall [] (c_impl_AtomOk s lits[i].atom) ?_ ?_ <;> simp -implicitDefEqProofs only [go_sem]
     cases h4:atomOk s lits[i].atom
     ·rw [h4,Bool.false_and] at hg
      simp -implicitDefEqProofs only [go_sem]
      refine fin1' ?_
      simp -implicitDefEqProofs only [go_sem]
      all_goals (simp [bothOk,hg]; done)
     ·rw [h4,Bool.true_and] at hg
      simp -implicitDefEqProofs only [go_sem]
      repeat (with_reducible apply And.intro; case left=>omega)
      refine ⟨i + 1,?_,?_,weakS [some 0] ?_ ?_ rfl rfl⟩
      rotate_left
      ·show _ < _
       omega
      ·simp -implicitDefEqProofs only [go_sem]
      ·simp -implicitDefEqProofs only [go_sem]
      exact ⟨by omega,hg⟩
    ·rw [List.drop_of_length_le (by omega),List.all_nil] at hg
     have hw:∀ l ∈ lits,atomWf l.atom = true:=by
      intro l hl
      have:=List.all_eq_true.1 hg l hl
      simp only [atomOk,Bool.and_eq_true] at this
      exact this.2.1
     simp -implicitDefEqProofs only [go_sem,h3]
     refine atOwn [] [1] (c_impl_termsOf lits (by omega) hw) ?_ ?_ <;> simp -implicitDefEqProofs only [go_sem]
     rcases Classical.em (((termsOf lits).length:Int) ≤ 24) with h5 | h5
     ·have h5':(termsOf lits).length ≤ 24:=by omega
      simp -implicitDefEqProofs only [go_sem,h5]
      refine atCall [] (c_impl_numsOf s lits (by omega) hw) ?_ ?_ <;> simp -implicitDefEqProofs only [go_sem]
      refine fin1' ?_
      simp -implicitDefEqProofs only [go_sem]
      have e:decide (((numsOf s lits).length:Int) ≤ 4) = decide ((numsOf s lits).length ≤ 4):=decide_eq_decide.2 (by omega)
      simp [bothOk,h1,h2',hg,h5',e]
     ·have h5':¬ (termsOf lits).length ≤ 24:=by omega
      simp -implicitDefEqProofs only [go_sem,h5]
      refine fin1' ?_
      simp -implicitDefEqProofs only [go_sem]
      all_goals (simp [bothOk,h5']; done)
theorem c_impl_is_one (s:Sig) (nums:List Term) (hn4:nums.length ≤ 4) (hnt:∀ t ∈ nums,isTerm t = true) (c:Case) (ih:∀ k ∈ c.kids,∀ (lits:List LitD) (deep:Nat),1 ≤ deep → deep ≤ 15 → lits.length + (15 - deep) ≤ 30 → (∀ l ∈ lits,Fit nums l) → C E.P 107 [.agg [.d (.lst (rowsSym s.syms)),.d (.lst (rowsT nums))],lv (rowsLit lits),av (cCase k),iv deep] [] (Eq2 (bv (caseIs s nums k lits deep)) []))
 (lits:List LitD) (deep:Nat) (hd1:1 ≤ deep) (hd:deep ≤ 14) (hll:lits.length + (15 - deep) ≤ 30) (hf:∀ l ∈ lits,Fit nums l) (k:c.kind = 1) :
 C E.P 107 [.agg [.d (.lst (rowsSym s.syms)),.d (.lst (rowsT nums))],lv (rowsLit lits),av (cCase c),iv deep] [] (Eq2 (bv (caseIs s nums c lits deep)) []):=by
 have hx:=caseIs_eq s nums c lits deep
 rw [if_neg (by omega)] at hx
 have x1:¬ (14:Int) < (deep:Int):=by omega
 have hLB:=LB_eq
 refine C_goS (nt:=169) (rs:=[.tmp 8]) hm Tryz.func107 rfl rfl rfl rfl rfl (fun hl he=>?_)
 simp -implicitDefEqProofs only [go_sem] at hl ⊢
 rw [if_pos k] at hx
 simp -implicitDefEqProofs only [go_sem,x1,k]
 refine atCall [] (c_impl_bare_1 c) ?_ ?_ <;> simp -implicitDefEqProofs only [go_sem,k]
 cases hb:bare c true true false false 0
 ·rw [hb,Bool.false_and] at hx
  simp -implicitDefEqProofs only [go_sem]
  refine fin1' ?_
  simp -implicitDefEqProofs only [go_sem]
  all_goals (simp [hx]; done)
 ·rw [hb,Bool.true_and] at hx
  simp -implicitDefEqProofs only [go_sem]
  repeat (with_reducible apply And.intro; case left=>omega)
  refine atCall [] (c_impl_within c.n 0 ((lits.length:Int) - 1)) ?_ ?_ <;> simp -implicitDefEqProofs only [go_sem]
  cases hw:within c.n 0 (lits.length - 1)
  ·rw [hw,Bool.false_and] at hx
   simp -implicitDefEqProofs only [go_sem]
   refine fin1' ?_
   simp -implicitDefEqProofs only [go_sem]
   all_goals (simp [hx]; done)
  ·have hw':=withinB_iff.1 hw
   have n0:0 ≤ c.n:=hw'.1
   have hlt:c.n.toNat < lits.length:=by omega
   rw [hw,Bool.true_and,List.getElem?_eq_getElem hlt] at hx
   simp -implicitDefEqProofs only [go_sem,n0,hlt]
   refine atCall [] (c_impl_eqsOf lits (by omega)) ?_ ?_ <;> simp -implicitDefEqProofs only [go_sem]
   refine atCall [] (c_impl_WhyTells s (eqsOf lits) c.why) ?_ ?_ <;> simp -implicitDefEqProofs only [go_sem]
   with_reducible refine ind_andM (by kernel_rfl) ?_
   cases hq:whyTells s (eqsOf lits) c.why with
   | none=>
     rw [hq] at hx
     simp only at hx
     simp -implicitDefEqProofs only [go_sem,Option.isSome_none]
     refine fin1' ?_
     simp -implicitDefEqProofs only [go_sem]
     all_goals (simp [hx]; done)
   | some q=>
     rw [hq] at hx
     simp only at hx
     simp -implicitDefEqProofs only [go_sem,Option.isSome_some,Option.getD_some]
     cases h6:lits[c.n.toNat].no
     ·rw [h6,Bool.false_and] at hx
      simp -implicitDefEqProofs only [go_sem]
      refine fin1' ?_
      simp -implicitDefEqProofs only [go_sem]
      all_goals (simp [hx]; done)
     ·rw [h6,Bool.true_and] at hx
      rcases Classical.em (lits[c.n.toNat].atom.kind = 1) with h7 | h7
      ·have k7:=eq_true h7
       have hc1:=c_impl_TermSame q.A lits[c.n.toNat].atom.A
       have hc2:=c_impl_TermSame q.B lits[c.n.toNat].atom.B
       simp only [k7,decide_true,Bool.true_and] at hx
       simp -implicitDefEqProofs only [go_sem,k7]
       refine atCall [] hc1 ?_ ?_ <;> simp -implicitDefEqProofs only [go_sem]
       rcases Classical.em (q.A = lits[c.n.toNat].atom.A) with h8 | h8
       ·have k8:=eq_true h8
        simp only [k8,decide_true,Bool.true_and] at hx
        simp -implicitDefEqProofs only [go_sem,k8]
        refine atCall [] hc2 ?_ ?_ <;> simp -implicitDefEqProofs only [go_sem]
        refine fin1' ?_
        simp -implicitDefEqProofs only [go_sem]
        all_goals (simp [hx]; done)
       ·have k8:=eq_false h8
        simp only [k8,decide_false,Bool.false_and] at hx
        simp -implicitDefEqProofs only [go_sem,k8]
        refine fin1' ?_
        simp -implicitDefEqProofs only [go_sem]
        all_goals (simp [hx]; done)
      ·have k7:=eq_false h7
       simp only [k7,decide_false,Bool.false_and] at hx
       simp -implicitDefEqProofs only [go_sem,k7]
       refine fin1' ?_
       simp -implicitDefEqProofs only [go_sem]
       all_goals (simp [hx]; done)
theorem c_impl_is_two (s:Sig) (nums:List Term) (hn4:nums.length ≤ 4) (hnt:∀ t ∈ nums,isTerm t = true) (c:Case) (ih:∀ k ∈ c.kids,∀ (lits:List LitD) (deep:Nat),1 ≤ deep → deep ≤ 15 → lits.length + (15 - deep) ≤ 30 → (∀ l ∈ lits,Fit nums l) → C E.P 107 [.agg [.d (.lst (rowsSym s.syms)),.d (.lst (rowsT nums))],lv (rowsLit lits),av (cCase k),iv deep] [] (Eq2 (bv (caseIs s nums k lits deep)) []))
 (lits:List LitD) (deep:Nat) (hd1:1 ≤ deep) (hd:deep ≤ 14) (hll:lits.length + (15 - deep) ≤ 30) (hf:∀ l ∈ lits,Fit nums l) (k:c.kind = 2) :
 C E.P 107 [.agg [.d (.lst (rowsSym s.syms)),.d (.lst (rowsT nums))],lv (rowsLit lits),av (cCase c),iv deep] [] (Eq2 (bv (caseIs s nums c lits deep)) []):=by
 have hx:=caseIs_eq s nums c lits deep
 rw [if_neg (by omega)] at hx
 have x1:¬ (14:Int) < (deep:Int):=by omega
 have hLB:=LB_eq
 refine C_goS (nt:=169) (rs:=[.tmp 8]) hm Tryz.func107 rfl rfl rfl rfl rfl (fun hl he=>?_)
 simp -implicitDefEqProofs only [go_sem] at hl ⊢
 rw [if_neg (by omega),if_pos k] at hx
 simp -implicitDefEqProofs only [go_sem,Z1,x1,k]
 refine atCall [] (c_impl_bare_2 c) ?_ ?_ <;> simp -implicitDefEqProofs only [go_sem,k]
 cases hb:bare c false false true false 0
 ·rw [hb,Bool.false_and] at hx
  simp -implicitDefEqProofs only [go_sem]
  with_reducible refine ind_andM (by kernel_rfl) ?_
  refine fin1' ?_
  simp -implicitDefEqProofs only [go_sem]
  all_goals (simp [hx]; done)
 ·rw [hb,Bool.true_and] at hx
  simp -implicitDefEqProofs only [go_sem]
  refine atCall [] (c_impl_linsOf nums lits hn4 (by omega) hf) ?_ ?_ <;> simp -implicitDefEqProofs only [go_sem]
  refine atCall [] (c_impl_FarOk (linsOf nums lits) c.times) ?_ ?_ <;> simp -implicitDefEqProofs only [go_sem]
  with_reducible refine ind_andM (by kernel_rfl) ?_
  refine fin1' ?_
  simp -implicitDefEqProofs only [go_sem]
  all_goals (simp [hx]; done)
theorem c_impl_is_three (s:Sig) (nums:List Term) (hn4:nums.length ≤ 4) (hnt:∀ t ∈ nums,isTerm t = true) (c:Case) (ih:∀ k ∈ c.kids,∀ (lits:List LitD) (deep:Nat),1 ≤ deep → deep ≤ 15 → lits.length + (15 - deep) ≤ 30 → (∀ l ∈ lits,Fit nums l) → C E.P 107 [.agg [.d (.lst (rowsSym s.syms)),.d (.lst (rowsT nums))],lv (rowsLit lits),av (cCase k),iv deep] [] (Eq2 (bv (caseIs s nums k lits deep)) []))
 (lits:List LitD) (deep:Nat) (hd1:1 ≤ deep) (hd:deep ≤ 14) (hll:lits.length + (15 - deep) ≤ 30) (hf:∀ l ∈ lits,Fit nums l) (k:c.kind = 3) :
 C E.P 107 [.agg [.d (.lst (rowsSym s.syms)),.d (.lst (rowsT nums))],lv (rowsLit lits),av (cCase c),iv deep] [] (Eq2 (bv (caseIs s nums c lits deep)) []):=by
 have hx:=caseIs_eq s nums c lits deep
 rw [if_neg (by omega)] at hx
 have x1:¬ (14:Int) < (deep:Int):=by omega
 have hLB:=LB_eq
 refine C_goS (nt:=169) (rs:=[.tmp 8]) hm Tryz.func107 rfl rfl rfl rfl rfl (fun hl he=>?_)
 simp -implicitDefEqProofs only [go_sem] at hl ⊢
 rw [if_neg (by omega),if_neg (by omega),if_pos k] at hx
 simp -implicitDefEqProofs only [go_sem,Z1,x1,k]
 refine atCall [] (c_impl_bare_3 c) ?_ ?_ <;> simp -implicitDefEqProofs only [go_sem,k]
 cases hb:bare c false true false false 1
 ·rw [hb,Bool.false_and] at hx
  simp -implicitDefEqProofs only [go_sem]
  refine fin1' ?_
  simp -implicitDefEqProofs only [go_sem]
  all_goals (simp [hx]; done)
 ·have z':c.kids.length = 1:=by
   simp only [bare,Bool.and_eq_true,decide_eq_true_eq] at hb
   exact hb.2.2.2.2
  have z0:0 < c.kids.length:=by omega
  rw [hb,Bool.true_and] at hx
  simp -implicitDefEqProofs only [go_sem]
  refine atCall [] (c_impl_eqsOf lits (by omega)) ?_ ?_ <;> simp -implicitDefEqProofs only [go_sem]
  refine atCall [] (c_impl_WhyTells s (eqsOf lits) c.why) ?_ ?_ <;> simp -implicitDefEqProofs only [go_sem]
  with_reducible refine ind_andM (by kernel_rfl) ?_
  cases hq:whyTells s (eqsOf lits) c.why with
  | none=>
    rw [hq] at hx
    simp only at hx
    simp -implicitDefEqProofs only [go_sem,Option.isSome_none]
    with_reducible refine ind_andM (by kernel_rfl) ?_
    refine fin1' ?_
    simp -implicitDefEqProofs only [go_sem]
    all_goals (simp [hx]; done)
  | some q=>
    rw [hq] at hx
    simp only at hx
    simp -implicitDefEqProofs only [go_sem,Option.isSome_some,Option.getD_some]
    refine atCall [] (c_impl_differ s nums q.A q.B) ?_ ?_ <;> simp -implicitDefEqProofs only [go_sem]
    cases h8:Mod.differ nums q.A q.B
    ·rw [h8,Bool.false_and] at hx
     simp -implicitDefEqProofs only [go_sem]
     with_reducible refine ind_andM (by kernel_rfl) ?_
     refine fin1' ?_
     simp -implicitDefEqProofs only [go_sem]
     all_goals (simp [hx]; done)
    ·have hdf:=differ_iff.1 h8
     have hi:=ih c.kids[0] (List.getElem_mem z0) (lits ++ [eqLit q.A q.B]) (deep + 1) (by omega) (by omega) (by simp; omega) (fun l hl=>by
      rcases List.mem_append.1 hl with hl | hl
      ·exact hf l hl
      ·simp only [List.mem_cons,List.not_mem_nil,or_false] at hl
       rw [hl]
       exact fit_eq hdf.1 hdf.2.1 (hnt _ hdf.1) (hnt _ hdf.2.1))
     rw [h8,Bool.true_and,caseIss_1 s nums c.kids[0] c.kids _ _ (list_1 z' z0)] at hx
     simp -implicitDefEqProofs only [go_sem]
     refine atCall [] (c_impl_eqLit q.A q.B) ?_ ?_ <;> simp -implicitDefEqProofs only [go_sem]
     refine atCall [] (c_impl_and lits (eqLit q.A q.B) (by omega)) ?_ ?_ <;> simp -implicitDefEqProofs only [go_sem,z0]
     repeat (with_reducible apply And.intro; case left=>omega)
     refine atCall [] hi ?_ ?_ <;> simp -implicitDefEqProofs only [go_sem]
     with_reducible refine ind_andM (by kernel_rfl) ?_
     refine fin1' ?_
     simp -implicitDefEqProofs only [go_sem]
     all_goals (simp [hx]; done)
theorem caseIss_drop {s:Sig} {nums:List Term} {cs:List Case} {ls:List (List LitD)} {i:Nat} (h:i < cs.length) (h':i < ls.length) (d:Nat):caseIss s nums (cs.drop i) (ls.drop i) d = (caseIs s nums cs[i] ls[i] d && caseIss s nums (cs.drop (i + 1)) (ls.drop (i + 1)) d):=by
 rw [List.drop_eq_getElem_cons h,List.drop_eq_getElem_cons h',caseIss]
theorem c_impl_is_four (s:Sig) (nums:List Term) (hn4:nums.length ≤ 4) (hnt:∀ t ∈ nums,isTerm t = true) (c:Case) (ih:∀ k ∈ c.kids,∀ (lits:List LitD) (deep:Nat),1 ≤ deep → deep ≤ 15 → lits.length + (15 - deep) ≤ 30 → (∀ l ∈ lits,Fit nums l) → C E.P 107 [.agg [.d (.lst (rowsSym s.syms)),.d (.lst (rowsT nums))],lv (rowsLit lits),av (cCase k),iv deep] [] (Eq2 (bv (caseIs s nums k lits deep)) []))
 (lits:List LitD) (deep:Nat) (hd1:1 ≤ deep) (hd:deep ≤ 14) (hll:lits.length + (15 - deep) ≤ 30) (hf:∀ l ∈ lits,Fit nums l) (k:c.kind = 4) :
 C E.P 107 [.agg [.d (.lst (rowsSym s.syms)),.d (.lst (rowsT nums))],lv (rowsLit lits),av (cCase c),iv deep] [] (Eq2 (bv (caseIs s nums c lits deep)) []):=by
 have hx:=caseIs_eq s nums c lits deep
 rw [if_neg (by omega)] at hx
 have x1:¬ (14:Int) < (deep:Int):=by omega
 have hLB:=LB_eq
 refine C_goS (nt:=169) (rs:=[.tmp 8]) hm Tryz.func107 rfl rfl rfl rfl rfl (fun hl he=>?_)
 simp -implicitDefEqProofs only [go_sem] at hl ⊢
 rw [if_neg (by omega),if_neg (by omega),if_neg (by omega),if_pos k] at hx
 simp -implicitDefEqProofs only [go_sem,Z1,x1,k]
 refine atCall [] (c_impl_bare_4 c) ?_ ?_ <;> simp -implicitDefEqProofs only [go_sem,k]
 cases hb:bare c false false false true 3
 ·rw [hb,Bool.false_and] at hx
  simp -implicitDefEqProofs only [go_sem]
  refine fin1' ?_
  simp -implicitDefEqProofs only [go_sem]
  all_goals (simp [hx]; done)
 ·have z':c.kids.length = 3:=by
   simp only [bare,Bool.and_eq_true,decide_eq_true_eq] at hb
   exact hb.2.2.2.2
  rw [hb,Bool.true_and] at hx
  simp -implicitDefEqProofs only [go_sem]
  refine atCall [] (c_impl_differ s nums c.A c.B) ?_ ?_ <;> simp -implicitDefEqProofs only [go_sem]
  cases h8:Mod.differ nums c.A c.B
  ·rw [h8,Bool.false_and] at hx
   simp -implicitDefEqProofs only [go_sem]
   refine fin1' ?_
   simp -implicitDefEqProofs only [go_sem]
   all_goals (simp [hx]; done)
  ·have hdf:=differ_iff.1 h8
   have tA:=hnt _ hdf.1
   have tB:=hnt _ hdf.2.1
   rw [h8,Bool.true_and] at hx
   have hfp:∀ x ∈ parted c.A c.B,Fit nums x:=by
    intro x hx
    simp only [parted,List.mem_cons,List.not_mem_nil,or_false] at hx
    rcases hx with rfl | rfl | rfl
    ·exact fit_eq hdf.1 hdf.2.1 tA tB
    ·exact fit_less hdf.1 hdf.2.1 tA tB hdf.2.2
    ·exact fit_less hdf.2.1 hdf.1 tB tA (Ne.symm hdf.2.2)
   have hc:=c_impl_parted c.A c.B tA tB
   have hp3:(parted c.A c.B).length = 3:=rfl
   generalize parted c.A c.B = ps at *
   simp -implicitDefEqProofs only [go_sem]
   refine atCall [] hc ?_ ?_ <;> simp -implicitDefEqProofs only [go_sem]
   refine loop_go1 hm (fun (i:Nat)=> i ≤ ps.length ∧ caseIs s nums c lits deep = caseIss s nums (c.kids.drop i) ((ps.map fun l=>lits ++ [l]).drop i) (deep + 1)) (fun (i:Nat)=> ⟨mkS 169 .any [(1,lv (rowsLit lits)),(3,iv deep),(4,.ptr 0 0),(6,.ptr 1 0),(148,lv (rowsLit ps)),(149,iv ps.length),(150,iv i)],[some (.box [.d (.lst (rowsSym s.syms)),.d (.lst (rowsT nums))]),some (.box (pvs (cCase c)))]⟩) (fun (i:Nat)=> ps.length - i) (0) ?_ (weakS [some 0,some 1] ?_ ?_ rfl rfl) ?_
   rotate_left
   ·simp -implicitDefEqProofs only [go_sem]
   ·simp -implicitDefEqProofs only [go_sem]
    all_goals (simp [*]; done)
   rotate_left
   ·simp [hx]
   ·rintro i ⟨hi,hg⟩
    rcases Classical.em (i < ps.length) with g1 | g1
    ·have g2:i < c.kids.length:=by omega
     have g3:i < (ps.map fun l=>lits ++ [l]).length:=by simp; omega
     rw [caseIss_drop g2 g3] at hg
     simp only [List.getElem_map] at hg
     have hi1:=ih c.kids[i] (List.getElem_mem g2) (lits ++ [ps[i]]) (deep + 1) (by omega) (by omega) (by simp; omega) (fun l hl=>by
      rcases List.mem_append.1 hl with hl | hl
      ·exact hf l hl
      ·simp only [List.mem_cons,List.not_mem_nil,or_false] at hl
       rw [hl]
       exact hfp _ (List.getElem_mem g1))
     simp -implicitDefEqProofs only [go_sem,g1]
     refine atCall [] (c_impl_and lits ps[i] (by omega)) ?_ ?_ <;> simp -implicitDefEqProofs only [go_sem,g2]
     repeat (with_reducible apply And.intro; case left=>omega)
     refine atCall [] hi1 ?_ ?_ <;> simp -implicitDefEqProofs only [go_sem]
     with_reducible refine ind_andM (by kernel_rfl) ?_
     cases q1:caseIs s nums c.kids[i] (lits ++ [ps[i]]) (deep + 1)
     ·rw [q1,Bool.false_and] at hg
      simp -implicitDefEqProofs only [go_sem]
      refine fin1' ?_
      simp -implicitDefEqProofs only [go_sem]
      all_goals (simp [hg]; done)
     ·rw [q1,Bool.true_and] at hg
      simp -implicitDefEqProofs only [go_sem]
      repeat (with_reducible apply And.intro; case left=>omega)
      refine ⟨i + 1,?_,?_,weakS [some 0,some 1] ?_ ?_ rfl rfl⟩
      rotate_left
      ·show _ < _
       omega
      ·simp -implicitDefEqProofs only [go_sem]
      ·simp -implicitDefEqProofs only [go_sem]
      exact ⟨by omega,hg⟩
    ·have e0:c.kids.drop i = []:=List.drop_of_length_le (by omega)
     have hg:caseIs s nums c lits deep = true:=by rw [hg,e0]; simp [caseIss]
     simp -implicitDefEqProofs only [go_sem,g1]
     refine fin1' ?_
     simp -implicitDefEqProofs only [go_sem]
     all_goals (simp [hg]; done)
theorem c_impl_is1 (s:Sig) (nums:List Term) (hn4:nums.length ≤ 4) (hnt:∀ t ∈ nums,isTerm t = true) (c:Case) (ih:∀ k ∈ c.kids,∀ (lits:List LitD) (deep:Nat),1 ≤ deep → deep ≤ 15 → lits.length + (15 - deep) ≤ 30 → (∀ l ∈ lits,Fit nums l) → C E.P 107 [.agg [.d (.lst (rowsSym s.syms)),.d (.lst (rowsT nums))],lv (rowsLit lits),av (cCase k),iv deep] [] (Eq2 (bv (caseIs s nums k lits deep)) []))
 (lits:List LitD) (deep:Nat) (hd1:1 ≤ deep) (hd:deep ≤ 15) (hll:lits.length + (15 - deep) ≤ 30) (hf:∀ l ∈ lits,Fit nums l) :
 C E.P 107 [.agg [.d (.lst (rowsSym s.syms)),.d (.lst (rowsT nums))],lv (rowsLit lits),av (cCase c),iv deep] [] (Eq2 (bv (caseIs s nums c lits deep)) []):=by
 rcases Classical.em (deep = 15) with h15 | h15
 ·have hx:=caseIs_eq s nums c lits deep
  rw [if_pos (by omega)] at hx
  have x1:(14:Int) < (deep:Int):=by omega
  have hLB:=LB_eq
  refine C_goS (nt:=169) (rs:=[.tmp 8]) hm Tryz.func107 rfl rfl rfl rfl rfl (fun hl he=>?_)
  simp -implicitDefEqProofs only [go_sem] at hl ⊢
  simp -implicitDefEqProofs only [go_sem,x1]
  refine fin1' ?_
  simp -implicitDefEqProofs only [go_sem]
  all_goals (simp [hx]; done)
 ·have hd':deep ≤ 14:=by omega
  rcases Classical.em (c.kind = 1) with k1 | k1
  ·exact c_impl_is_one s nums hn4 hnt c ih lits deep hd1 hd' hll hf k1
  rcases Classical.em (c.kind = 2) with k2 | k2
  ·exact c_impl_is_two s nums hn4 hnt c ih lits deep hd1 hd' hll hf k2
  rcases Classical.em (c.kind = 3) with k3 | k3
  ·exact c_impl_is_three s nums hn4 hnt c ih lits deep hd1 hd' hll hf k3
  rcases Classical.em (c.kind = 4) with k4 | k4
  ·exact c_impl_is_four s nums hn4 hnt c ih lits deep hd1 hd' hll hf k4
  ·have hx:=caseIs_eq s nums c lits deep
   rw [if_neg (by omega),if_neg k1,if_neg k2,if_neg k3,if_neg k4] at hx
   have x1:¬ (14:Int) < (deep:Int):=by omega
   have hLB:=LB_eq
   refine C_goS (nt:=169) (rs:=[.tmp 8]) hm Tryz.func107 rfl rfl rfl rfl rfl (fun hl he=>?_)
   simp -implicitDefEqProofs only [go_sem] at hl ⊢
   simp -implicitDefEqProofs only [go_sem,x1,k1,k2,k3,k4]
   refine fin1' ?_
   simp -implicitDefEqProofs only [go_sem]
   all_goals (simp [hx]; done)
theorem c_impl_is (s:Sig) (nums:List Term) (hn4:nums.length ≤ 4) (hnt:∀ t ∈ nums,isTerm t = true):∀ (c:Case) (lits:List LitD) (deep:Nat),1 ≤ deep → deep ≤ 15 → lits.length + (15 - deep) ≤ 30 → (∀ l ∈ lits,Fit nums l) → C E.P 107 [.agg [.d (.lst (rowsSym s.syms)),.d (.lst (rowsT nums))],lv (rowsLit lits),av (cCase c),iv deep] [] (Eq2 (bv (caseIs s nums c lits deep)) []):=
 Case.ind fun k n w ts a b ks ih lits deep h1 h2 h3 h4=>c_impl_is1 s nums hn4 hnt (.mk k n w ts a b ks) ih lits deep h1 h2 h3 h4
theorem c_impl_CaseOk (s:Sig) (lits:List LitD) (c:Case):C E.P 68 [av (cSig s),lv (rowsLit lits),av (cCase c)] [] (Eq2 (bv (caseOk s lits c)) []):=by
 have hLB:=LB_eq
 refine C_goS (nt:=20) (rs:=[.tmp 6]) hm Tryz.func68 rfl rfl rfl rfl rfl (fun hl he=>?_)
 simp -implicitDefEqProofs only [go_sem] at hl ⊢
 refine atCall [] (c_impl_BothOk s lits) ?_ ?_ <;> simp -implicitDefEqProofs only [go_sem]
 cases h:bothOk s lits
 ·simp -implicitDefEqProofs only [go_sem]
  with_reducible refine ind_andM (by kernel_rfl) ?_
  refine fin1' ?_
  simp -implicitDefEqProofs only [go_sem]
  all_goals (simp [caseOk,h]; done)
 ·obtain ⟨hf,ht,h4,h6,hs,hw,htt,h24⟩:=fit_both h
  have hc:=c_impl_is s (numsOf s lits) h4 ht c lits 1 (by omega) (by omega) (by omega) hf
  simp -implicitDefEqProofs only [go_sem]
  refine atCall [] (c_impl_numsOf s lits (by omega) hw) ?_ ?_ <;> simp -implicitDefEqProofs only [go_sem]
  refine atCall [] hc ?_ ?_ <;> simp -implicitDefEqProofs only [go_sem,natCast_lit]
  with_reducible refine ind_andM (by kernel_rfl) ?_
  refine fin1' ?_
  simp -implicitDefEqProofs only [go_sem]
  rw [caseOk,h]
  simp
end Go.Proofs.YtlddcknkojieeaaGreat
