/-
  The reference: the walks of formulas. A step towards the exact laws. The reference: the walks of formulas, going on: what they tell of, and whether they hold. A step towards the exact laws.
-/
import Derived.Test.YtdikjlldidjioaaGreatKAP
import Derived.Test.YtdikjlldidjioaaGreatKAI
import Derived.Test.YtdikjlldidjioaaGreatKAE
import Derived.Test.YtdikjlldidjioaaGreatKAD
set_option linter.unusedVariables false
set_option linter.unusedSimpArgs false
namespace Go.Proofs.YtdikjlldidjioaaGreat
open Go.Eng Go.Mod
open Int renaming reduceEq → Z1,reduceLT → Z2,reduceLE → Z3,reduceToNat → Z4
set_option maxRecDepth 100000
set_option maxHeartbeats 400000
theorem atom_eq (a b:Atom):(a = b) = (a.kind = b.kind ∧ a.A = b.A ∧ a.B = b.B ∧ a.nums = b.nums ∧ a.times = b.times ∧ a.bound = b.bound ∧ a.strict = b.strict):=by
 cases a; cases b; simp only [Atom.mk.injEq]
theorem c_spec_AtomSame (a b:Atom):C E.P 197 [av (cAtom a),av (cAtom b)] [] (Eq2 (bv (decide (a = b))) []):=by
 have hLB:=LB_eq
 refine C_goS (nt:=97) (rs:=[.tmp 4]) hm Tryz.func197 rfl rfl rfl rfl rfl (fun hl he=>?_)
 simp -implicitDefEqProofs only [go_sem] at hl ⊢
 rcases Classical.em (a.kind = b.kind) with h1 | h1
 rotate_left
 ·simp -implicitDefEqProofs only [go_sem,h1]
  refine fin1' ?_
  simp -implicitDefEqProofs only [go_sem]
  all_goals (simp [atom_eq,h1]; done)
 have k1:=eq_true h1
 simp -implicitDefEqProofs only [go_sem,k1]
 refine atCall [] (c_spec_TermSame a.A b.A) ?_ ?_ <;> simp -implicitDefEqProofs only [go_sem]
 rcases Classical.em (a.A = b.A) with h2 | h2
 rotate_left
 ·simp -implicitDefEqProofs only [go_sem,h2]
  refine fin1' ?_
  simp -implicitDefEqProofs only [go_sem]
  all_goals (simp [atom_eq,h2]; done)
 have k2:=eq_true h2
 simp -implicitDefEqProofs only [go_sem,k2]
 refine atCall [] (c_spec_TermSame a.B b.B) ?_ ?_ <;> simp -implicitDefEqProofs only [go_sem]
 rcases Classical.em (a.B = b.B) with h3 | h3
 rotate_left
 ·simp -implicitDefEqProofs only [go_sem,h3]
  refine fin1' ?_
  simp -implicitDefEqProofs only [go_sem]
  all_goals (simp [atom_eq,h3]; done)
 have k3:=eq_true h3
 simp -implicitDefEqProofs only [go_sem,k3]
 rcases Classical.em (a.nums.length = b.nums.length) with h4 | h4
 rotate_left
 ·have e:¬ a.nums = b.nums:=fun hh=>h4 (by rw [hh])
  simp -implicitDefEqProofs only [go_sem,h4]
  refine fin1' ?_
  simp -implicitDefEqProofs only [go_sem]
  all_goals (simp [atom_eq,e]; done)
 have k4:=eq_true h4
 simp -implicitDefEqProofs only [go_sem,k4]
 rcases Classical.em (a.times.length = b.times.length) with h5 | h5
 rotate_left
 ·have e:¬ a.times = b.times:=fun hh=>h5 (by rw [hh])
  simp -implicitDefEqProofs only [go_sem,h5]
  refine fin1' ?_
  simp -implicitDefEqProofs only [go_sem]
  all_goals (simp [atom_eq,e]; done)
 have k5:=eq_true h5
 simp -implicitDefEqProofs only [go_sem,k5]
 rcases Classical.em (a.bound = b.bound) with h6 | h6
 rotate_left
 ·simp -implicitDefEqProofs only [go_sem,h6]
  refine fin1' ?_
  simp -implicitDefEqProofs only [go_sem]
  all_goals (simp [atom_eq,h6]; done)
 have k6:=eq_true h6
 simp -implicitDefEqProofs only [go_sem,k6]
 rcases Classical.em (a.strict = b.strict) with h7 | h7
 rotate_left
 ·have h7':(a.strict == b.strict) = false:=by simpa using h7
  simp -implicitDefEqProofs only [go_sem,h7']
  refine fin1' ?_
  simp -implicitDefEqProofs only [go_sem]
  all_goals (simp [atom_eq,h7]; done)
 have h7':(a.strict == b.strict) = true:=by simpa using h7
 simp -implicitDefEqProofs only [go_sem,h7']
 refine loop_go1 hm (fun (i:Nat)=> i ≤ a.nums.length ∧ (a.nums = b.nums ↔ a.nums.drop i = b.nums.drop i)) (fun (i:Nat)=> ⟨mkS 97 .any [(2,.ptr 0 0),(3,.ptr 1 0),(5,iv i)],[some (.box (pvs (cAtom a))),some (.box (pvs (cAtom b)))]⟩) (fun (i:Nat)=> a.nums.length - i) (0) ?_ (weakS [some 0,some 1] ?_ ?_ rfl rfl) ?_
 rotate_left
 ·simp -implicitDefEqProofs only [go_sem]
 ·simp -implicitDefEqProofs only [go_sem]
 rotate_left
 ·simp
 ·rintro i ⟨hi,hg⟩
  rcases Classical.em (i < a.nums.length) with q1 | q1
  ·have q2:i < b.nums.length:=by omega
   rw [drop_eq q1 q2] at hg
   simp -implicitDefEqProofs only [go_sem,q1,q2]
   refine atCall [] (c_spec_TermSame a.nums[i] b.nums[i]) ?_ ?_ <;> simp -implicitDefEqProofs only [go_sem]
   with_reducible refine ind_andM (by kernel_rfl) ?_
   rcases Classical.em (a.nums[i] = b.nums[i]) with q3 | q3
   ·have k:=eq_true q3
    simp -implicitDefEqProofs only [go_sem,k]
    repeat (with_reducible apply And.intro; case left=>omega)
    refine ⟨i + 1,?_,?_,weakS [some 0,some 1] ?_ ?_ rfl rfl⟩
    rotate_left
    ·show _ < _
     omega
    ·simp -implicitDefEqProofs only [go_sem]
    ·simp -implicitDefEqProofs only [go_sem]
    refine ⟨by omega,?_⟩
    rw [hg]
    simp [q3]
   ·have e:¬ a.nums = b.nums:=fun hh=>q3 (hg.1 hh).1
    simp -implicitDefEqProofs only [go_sem,q3]
    refine fin1' ?_
    simp -implicitDefEqProofs only [go_sem]
    all_goals (simp [atom_eq,e]; done)
  ·rw [List.drop_of_length_le (by omega),List.drop_of_length_le (by omega)] at hg
   have h8:a.nums = b.nums:=hg.2 rfl
   simp -implicitDefEqProofs only [go_sem,q1]
   refine loop_go1 hm (fun (j:Nat)=> j ≤ a.times.length ∧ (a.times = b.times ↔ a.times.drop j = b.times.drop j)) (fun (j:Nat)=> ⟨mkS 97 .any [(2,.ptr 0 0),(3,.ptr 1 0),(6,iv j)],[some (.box (pvs (cAtom a))),some (.box (pvs (cAtom b)))]⟩) (fun (j:Nat)=> a.times.length - j) (0) ?_ (weakS [some 0,some 1] ?_ ?_ rfl rfl) ?_
   rotate_left
   ·simp -implicitDefEqProofs only [go_sem]
   ·simp -implicitDefEqProofs only [go_sem]
   rotate_left
   ·simp
   ·rintro j ⟨hj,hk⟩
    rcases Classical.em (j < a.times.length) with q1' | q1'
    ·have q2:j < b.times.length:=by omega
     rw [drop_eq q1' q2] at hk
     rcases Classical.em (a.times[j] = b.times[j]) with q3 | q3
     ·have k:=eq_true q3
      simp -implicitDefEqProofs only [go_sem,q1',q2,k]
      with_reducible refine ind_andM (by kernel_rfl) ?_
      repeat (with_reducible apply And.intro; case left=>omega)
      refine ⟨j + 1,?_,?_,weakS [some 0,some 1] ?_ ?_ rfl rfl⟩
      rotate_left
      ·show _ < _
       omega
      ·simp -implicitDefEqProofs only [go_sem]
      ·simp -implicitDefEqProofs only [go_sem]
      refine ⟨by omega,?_⟩
      rw [hk]
      simp [q3]
     ·have e:¬ a.times = b.times:=fun hh=>q3 (hk.1 hh).1
      simp -implicitDefEqProofs only [go_sem,q1',q2,q3]
      with_reducible refine ind_andM (by kernel_rfl) ?_
      refine fin1' ?_
      simp -implicitDefEqProofs only [go_sem]
      all_goals (simp [atom_eq,e]; done)
    ·rw [List.drop_of_length_le (by omega),List.drop_of_length_le (by omega)] at hk
     simp -implicitDefEqProofs only [go_sem,q1']
     refine fin1' ?_
     simp -implicitDefEqProofs only [go_sem]
     all_goals (simp [atom_eq,h1,h2,h3,h8,h6,h7,hk]; done)
theorem c_spec_l9NoLit (l:LitD):C E.P 199 [av (cLit l)] [] (Eq2 (bv (isNoLit l)) []):=by
 have hLB:=LB_eq
 refine C_goS (nt:=12) (rs:=[.tmp 2]) hm Tryz.func199 rfl rfl rfl rfl rfl (fun hl he=>?_)
 simp -implicitDefEqProofs only [go_sem] at hl ⊢
 cases h1:l.no
 ·have hc:=c_spec_AtomSame l.atom atom0
  simp -implicitDefEqProofs only [go_sem]
  refine atCall [] hc ?_ ?_ <;> simp -implicitDefEqProofs only [go_sem]
  ·exact ⟨rfl,rfl,rfl,rfl,rfl,rfl,rfl,rfl,rfl⟩
  refine fin1' ?_
  simp -implicitDefEqProofs only [go_sem]
  all_goals (simp [isNoLit,h1]; done)
 ·simp -implicitDefEqProofs only [go_sem]
  refine fin1' ?_
  simp -implicitDefEqProofs only [go_sem]
  all_goals (simp [isNoLit,h1]; done)
theorem c_spec_l9Kids (k:Int):C E.P 65 [iv k] [] (Eq2 (iv (kidsOf k)) []):=by
 have hLB:=LB_eq
 refine C_goS (nt:=13) (rs:=[.tmp 2]) hm Tryz.func65 rfl rfl rfl rfl rfl (fun hl he=>?_)
 simp -implicitDefEqProofs only [go_sem] at hl ⊢
 rcases Classical.em (k = 1) with h1 | h1
 ·have q:=eq_true h1
  simp -implicitDefEqProofs only [go_sem,q]
  refine fin1' ?_
  simp -implicitDefEqProofs only [go_sem]
  all_goals (simp [kidsOf,h1]; done)
 rcases Classical.em (k = 2) with h2 | h2
 ·have q:=eq_true h2
  simp -implicitDefEqProofs only [go_sem,h1,q]
  refine fin1' ?_
  simp -implicitDefEqProofs only [go_sem]
  all_goals (simp [kidsOf,h2]; done)
 rcases Classical.em (k = 3) with h3 | h3
 ·have q:=eq_true h3
  simp -implicitDefEqProofs only [go_sem,h1,h2,q]
  refine fin1' ?_
  simp -implicitDefEqProofs only [go_sem]
  all_goals (simp [kidsOf,h3]; done)
 rcases Classical.em (k = 4) with h4 | h4
 ·have q:=eq_true h4
  simp -implicitDefEqProofs only [go_sem,h1,h2,h3,q]
  refine fin1' ?_
  simp -implicitDefEqProofs only [go_sem]
  all_goals (simp [kidsOf,h4]; done)
 rcases Classical.em (k = 5) with h5 | h5
 ·have q:=eq_true h5
  simp -implicitDefEqProofs only [go_sem,h1,h2,h3,h4,q]
  refine fin1' ?_
  simp -implicitDefEqProofs only [go_sem]
  all_goals (simp [kidsOf,h5]; done)
 rcases Classical.em (k = 6) with h6 | h6
 ·have q:=eq_true h6
  simp -implicitDefEqProofs only [go_sem,h1,h2,h3,h4,h5,q]
  refine fin1' ?_
  simp -implicitDefEqProofs only [go_sem]
  all_goals (simp [kidsOf,h6]; done)
 ·simp -implicitDefEqProofs only [go_sem,h1,h2,h3,h4,h5,h6]
  refine fin1' ?_
  simp -implicitDefEqProofs only [go_sem]
  all_goals (simp [kidsOf,h1,h2,h3,h4,h5,h6]; done)
theorem formShape_eq (t:Mod.Form) (d:Nat):formShape t (d + 1) = (formHead t.kind t.lit t.kids && formShapes t.kids d):=by cases t; rfl
theorem formShapes_drop {ts:List Mod.Form} {i:Nat} (h:i < ts.length) (d:Nat):formShapes (ts.drop i) d = (formShape ts[i] d && formShapes (ts.drop (i + 1)) d):=by rw [List.drop_eq_getElem_cons h,formShapes]
theorem c_spec_l9Shape1 (t:Mod.Form) (ih:∀ k ∈ t.kids,∀ d:Nat,d ≤ 5 → C E.P 150 [av (cForm k),iv d] [] (Eq2 (bv (formShape k d)) [])) (d:Nat) (hd:d ≤ 5) :
 C E.P 150 [av (cForm t),iv d] [] (Eq2 (bv (formShape t d)) []):=by
 cases d with
 | zero=>
   have e:formShape t 0 = false:=by cases t; rfl
   have hLB:=LB_eq
   refine C_goS (nt:=43) (rs:=[.tmp 4]) hm Tryz.func150 rfl rfl rfl rfl rfl (fun hl he=>?_)
   simp -implicitDefEqProofs only [go_sem,Z2] at hl ⊢
   with_reducible refine ind_andM (by kernel_rfl) ?_
   refine fin1' ?_
   simp -implicitDefEqProofs only [go_sem]
   all_goals (simp [e]; done)
 | succ d=>
   have e:=formShape_eq t d
   unfold formHead at e
   have hLB:=LB_eq
   refine C_goS (nt:=43) (rs:=[.tmp 4]) hm Tryz.func150 rfl rfl rfl rfl rfl (fun hl he=>?_)
   simp -implicitDefEqProofs only [go_sem] at hl ⊢
   have h0:¬ (d:Int) + 1 < 1:=by omega
   simp -implicitDefEqProofs only [go_sem,h0]
   refine atCall [] (c_spec_l9Kids t.kind) ?_ ?_ <;> simp -implicitDefEqProofs only [go_sem]
   with_reducible refine ind_andM (by kernel_rfl) ?_
   rcases Classical.em (kidsOf t.kind = t.kids.length) with h1 | h1
   rotate_left
   ·simp only [h1,decide_false,Bool.false_and] at e
    simp -implicitDefEqProofs only [go_sem,h1]
    refine fin1' ?_
    simp -implicitDefEqProofs only [go_sem]
    all_goals (simp [e]; done)
   have k1:=eq_true h1
   simp only [h1,decide_true,Bool.true_and] at e
   rcases Classical.em (t.kind = 1) with h2 | h2
   ·have k2:=eq_true h2
    have hz:t.kids = []:=by
     rw [h2] at h1
     have:(t.kids.length:Int) = 0:=by rw [← h1]; rfl
     exact List.length_eq_zero_iff.1 (by omega)
    rw [if_pos h2,hz,formShapes,Bool.and_true] at e
    simp -implicitDefEqProofs only [go_sem,k1,k2]
    refine atCall [] (c_spec_l6Right t.lit.atom) ?_ ?_ <;> simp -implicitDefEqProofs only [go_sem]
    refine fin1' ?_
    simp -implicitDefEqProofs only [go_sem]
    all_goals (simp [e]; done)
   ·rw [if_neg h2] at e
    simp -implicitDefEqProofs only [go_sem,k1,h2]
    refine loop_go1 hm (fun (i:Nat)=> i ≤ t.kids.length ∧ formShapes t.kids d = formShapes (t.kids.drop i) d) (fun (i:Nat)=> ⟨mkS 43 .any [(1,iv ((d:Int) + 1)),(2,.ptr 0 0),(5,iv i)],[some (.box (pvs (cForm t)))]⟩) (fun (i:Nat)=> t.kids.length - i) (0) ?_ (weakS [some 0] ?_ ?_ rfl rfl) ?_
    rotate_left
    ·simp -implicitDefEqProofs only [go_sem]
    ·simp -implicitDefEqProofs only [go_sem]
    rotate_left
    ·simp
    ·rintro i ⟨hi,hg⟩
     rcases Classical.em (i < t.kids.length) with h3 | h3
     ·rw [formShapes_drop h3] at hg
      have e2:(d:Int) + 1 - 1 = (d:Int):=by omega
      simp -implicitDefEqProofs only [go_sem,h3,e2]
      repeat (with_reducible apply And.intro; case left=>omega)
      have hc:=ih t.kids[i] (List.getElem_mem h3) d (by omega)
      refine atCall [] hc ?_ ?_ <;> simp -implicitDefEqProofs only [go_sem]
      cases h4:formShape t.kids[i] d
      ·rw [h4,Bool.false_and] at hg
       rw [hg,Bool.and_false] at e
       simp -implicitDefEqProofs only [go_sem]
       refine fin1' ?_
       simp -implicitDefEqProofs only [go_sem]
       all_goals (simp [e]; done)
      ·rw [h4,Bool.true_and] at hg
       simp -implicitDefEqProofs only [go_sem]
       repeat (with_reducible apply And.intro; case left=>omega)
       refine ⟨i + 1,?_,?_,weakS [some 0] ?_ ?_ rfl rfl⟩
       rotate_left
       ·show _ < _
        omega
       ·simp -implicitDefEqProofs only [go_sem]
       ·simp -implicitDefEqProofs only [go_sem]
       exact ⟨by omega,hg⟩
     ·rw [List.drop_of_length_le (by omega),formShapes] at hg
      rw [hg,Bool.and_true] at e
      simp -implicitDefEqProofs only [go_sem,h3]
      refine atCall [] (c_spec_l9NoLit t.lit) ?_ ?_ <;> simp -implicitDefEqProofs only [go_sem]
      refine fin1' ?_
      simp -implicitDefEqProofs only [go_sem]
      all_goals (simp [e]; done)
theorem c_spec_l9Shape:∀ (t:Mod.Form) (d:Nat),d ≤ 5 → C E.P 150 [av (cForm t),iv d] [] (Eq2 (bv (formShape t d)) []):=
 Form.ind fun k x ks ih d hd=>c_spec_l9Shape1 (.mk k x ks) ih d hd
theorem formManys_snoc {ts:List Mod.Form} {i:Nat} (h:i < ts.length) (d:Nat):formManys (ts.take (i + 1)) d = formManys (ts.take i) d + formMany ts[i] d:=by
 have key:∀ (xs:List Mod.Form),formManys (xs ++ [ts[i]]) d = formManys xs d + formMany ts[i] d:=by
  intro xs
  induction xs with
  | nil=>simp [formManys]
  | cons a xs ih=>simp only [List.cons_append,formManys,ih]; omega
 rw [take_snoc h,key]
theorem formShapes_take:∀ {ts:List Mod.Form} {d:Nat},formShapes ts d = true → ∀ i,formShapes (ts.take i) d = true
 | [],_,_,i=>by simp [formShapes]
 | t :: ts,d,h,0=>by simp [formShapes]
 | t :: ts,d,h,i + 1=>by
   simp only [formShapes,Bool.and_eq_true] at h
   simp only [List.take_succ_cons,formShapes,h.1,Bool.true_and]
   exact formShapes_take h.2 i
theorem c_spec_l9Many1 (t:Mod.Form) (ih:∀ k ∈ t.kids,∀ d:Nat,d ≤ 5 → formShape k d = true → C E.P 151 [av (cForm k),iv d] [] (Eq2 (iv (formMany k d)) [])) (d:Nat) (hd:d ≤ 5) (hs:formShape t d = true) :
 C E.P 151 [av (cForm t),iv d] [] (Eq2 (iv (formMany t d)) []):=by
 cases d with
 | zero=>cases t; simp [formShape] at hs
 | succ d=>
   have hk:=formShape_kids hs
   have e:formMany t (d + 1) = 1 + formManys t.kids d:=by cases t; rfl
   have hLB:=LB_eq
   refine C_goS (nt:=29) (rs:=[.tmp 4]) hm Tryz.func151 rfl rfl rfl rfl rfl (fun hl he=>?_)
   simp -implicitDefEqProofs only [go_sem] at hl ⊢
   refine loop_go1 hm (fun (i:Nat)=> i ≤ t.kids.length) (fun (i:Nat)=> ⟨mkS 29 .any [(1,iv ((d:Int) + 1)),(2,.ptr 0 0),(5,iv ((1 + formManys (t.kids.take i) d:Nat):Int)),(6,iv i)],[some (.box (pvs (cForm t)))]⟩) (fun (i:Nat)=> t.kids.length - i) (0) ?_ (weakS [some 0] ?_ ?_ rfl rfl) ?_
   rotate_left
   ·simp -implicitDefEqProofs only [go_sem]
    all_goals (simp [formManys])
   ·simp -implicitDefEqProofs only [go_sem]
   rotate_left
   ·omega
   ·rintro i hi
    have b1:=formManys_le (t.kids.take i) d (formShapes_take hk.2.2 i)
    have b2:(t.kids.take i).length ≤ 2:=by rw [List.length_take]; omega
    have b3:(2:Nat) ^ d ≤ 2 ^ 5:=Nat.pow_le_pow_right (by omega) (by omega)
    have b4:(t.kids.take i).length * (2 ^ d - 1) ≤ 2 * (2 ^ d - 1):=Nat.mul_le_mul_right _ b2
    rcases Classical.em (i < t.kids.length) with h1 | h1
    ·have hsk:=formShapes_mem hk.2.2 _ (List.getElem_mem h1)
     have b5:=formMany_le t.kids[i] d hsk
     have e2:(d:Int) + 1 - 1 = (d:Int):=by omega
     have e3:(0:Int) < (d:Int) + 1:=by omega
     simp -implicitDefEqProofs only [go_sem,h1,e3,e2]
     repeat (with_reducible apply And.intro; case left=>omega)
     have hc:=ih t.kids[i] (List.getElem_mem h1) d (by omega) hsk
     refine atCall [] hc ?_ ?_ <;> simp -implicitDefEqProofs only [go_sem]
     repeat (with_reducible apply And.intro; case left=>omega)
     refine ⟨i + 1,?_,?_,weakS [some 0] ?_ ?_ rfl rfl⟩
     rotate_left
     ·show _ < _
      omega
     ·simp -implicitDefEqProofs only [go_sem]
      all_goals ((simp only [formManys_snoc h1]; simp; omega))
     ·simp -implicitDefEqProofs only [go_sem]
     exact h1
    ·have et:t.kids.take i = t.kids:=List.take_of_length_le (by omega)
     simp -implicitDefEqProofs only [go_sem,h1,et]
     refine fin1' ?_
     simp -implicitDefEqProofs only [go_sem]
     all_goals (simp [e]; done)
theorem c_spec_l9Many:∀ (t:Mod.Form) (d:Nat),d ≤ 5 → formShape t d = true → C E.P 151 [av (cForm t),iv d] [] (Eq2 (iv (formMany t d)) []):=
 Form.ind fun k x ks ih d hd hs=>c_spec_l9Many1 (.mk k x ks) ih d hd hs
theorem c_spec_l9Place (xs:List Atom) (a:Atom):C E.P 147 [lv (rowsAtom xs),av (cAtom a)] [] (Eq2 (iv (atomIdx xs a)) []):=by
 have hLB:=LB_eq
 refine C_goS (nt:=19) (rs:=[.tmp 4]) hm Tryz.func147 rfl rfl rfl rfl rfl (fun hl he=>?_)
 simp -implicitDefEqProofs only [go_sem] at hl ⊢
 refine loop_go1 hm (fun (i:Nat)=> i ≤ xs.length ∧ atomIdx xs a = idxGo (fun u=>decide (a = u)) (xs.drop i) i) (fun (i:Nat)=> ⟨mkS 19 .any [(0,lv (rowsAtom xs)),(3,.ptr 0 0),(5,iv i)],[some (.box (pvs (cAtom a)))]⟩) (fun (i:Nat)=> xs.length - i) (0) ?_ (weakS [some 0] ?_ ?_ rfl rfl) ?_
 rotate_left
 ·simp -implicitDefEqProofs only [go_sem]
 ·simp -implicitDefEqProofs only [go_sem]
 rotate_left
 ·simp [atomIdx,idxOf]
 ·rintro i ⟨hi,hg⟩
  rcases Classical.em (i < xs.length) with h1 | h1
  ·rw [List.drop_eq_getElem_cons h1,idxGo] at hg
   simp -implicitDefEqProofs only [go_sem,h1]
   refine atCall [] (c_spec_AtomSame xs[i] a) ?_ ?_ <;> simp -implicitDefEqProofs only [go_sem]
   with_reducible refine ind_andM (by kernel_rfl) ?_
   rcases Classical.em (xs[i] = a) with h2 | h2
   ·have k:=eq_true h2
    simp only [h2,decide_true,if_true] at hg
    simp -implicitDefEqProofs only [go_sem,k]
    refine fin1' ?_
    simp -implicitDefEqProofs only [go_sem]
    all_goals (simp [hg]; done)
   ·have h3:¬ a = xs[i]:=fun h=>h2 h.symm
    simp only [h3,decide_false,Bool.false_eq_true,if_false] at hg
    simp -implicitDefEqProofs only [go_sem,h2]
    repeat (with_reducible apply And.intro; case left=>omega)
    refine ⟨i + 1,?_,?_,weakS [some 0] ?_ ?_ rfl rfl⟩
    rotate_left
    ·show _ < _
     omega
    ·simp -implicitDefEqProofs only [go_sem]
    ·simp -implicitDefEqProofs only [go_sem]
    exact ⟨by omega,by rw [hg]; rfl⟩
  ·rw [List.drop_of_length_le (by omega),idxGo] at hg
   simp -implicitDefEqProofs only [go_sem,h1]
   refine fin1' ?_
   simp -implicitDefEqProofs only [go_sem]
   all_goals (simp [hg]; done)
end Go.Proofs.YtdikjlldidjioaaGreat
namespace Go.Proofs.YtdikjlldidjioaaGreat
open Go.Eng Go.Mod
open Int renaming reduceEq → Z1,reduceLT → Z2,reduceLE → Z3,reduceToNat → Z4
set_option maxRecDepth 100000
set_option maxHeartbeats 400000
def addAtom (l:List Atom) (a:Atom):List Atom:=if atomIdx l a < 0 then l ++ [a] else l
theorem c_spec_l9Add (l:List Atom) (a:Atom) (hl1:l.length ≤ 900000):C E.P 98 [.acc 0,av (cAtom a)] [some (.acc 46 (rowsAtom l))] (Eq2 (.acc 1) [some .dead,some (.acc 46 (rowsAtom (addAtom l a)))]):=by
 have hLB:=LB_eq
 refine C_goS (nt:=14) (rs:=[.tmp 4]) hm Tryz.func98 rfl rfl rfl rfl rfl (fun hl he=>?_)
 simp -implicitDefEqProofs only [go_sem] at hl ⊢
 refine atLook [] [0] (c_spec_l9Place l a) rfl ?_ ?_ ?_
 ·(simp -implicitDefEqProofs only [go_sem]; repeat' (first | exact Vws.nil | apply Vws.cons | exact Vw.same (by first | rfl | simp -implicitDefEqProofs only [go_sem,Z1,Z2,Z3,Z4]) | exact Vw.acc rfl rfl | exact Vw.tre rfl rfl (by simp -implicitDefEqProofs only [go_sem,Z1,Z2,Z3,Z4]) | exact Vw.nil | apply Vw.agg | apply Vw.fn | refine Vw.box rfl rfl ?_))
 all_goals simp -implicitDefEqProofs only [go_sem]
 rcases Classical.em (0 ≤ atomIdx l a) with hx | hx
 ·have hx':¬ atomIdx l a < 0:=by omega
  simp -implicitDefEqProofs only [go_sem,hx]
  refine finM' [some 0,some 0] ?_ rfl rfl
  simp -implicitDefEqProofs only [go_sem]
  rw [addAtom,if_neg hx']
 ·have hx':atomIdx l a < 0:=by omega
  simp -implicitDefEqProofs only [go_sem,hx]
  repeat (with_reducible apply And.intro; case left=>omega)
  refine finM' [some 0,some 2] ?_ rfl rfl
  simp -implicitDefEqProofs only [go_sem]
  rw [addAtom,if_pos hx',← rowsAtom_app,rowsAtom_cons,rowsAtom_nil]
  rfl
theorem c_spec_l9Add_nil (a:Atom):C E.P 98 [.nilS,av (cAtom a)] [] (Eq2 (.acc 0) [some (.acc 46 (rowsAtom [a]))]):=by
 have hLB:=LB_eq
 refine C_goS (nt:=14) (rs:=[.tmp 4]) hm Tryz.func98 rfl rfl rfl rfl rfl (fun hl he=>?_)
 simp -implicitDefEqProofs only [go_sem] at hl ⊢
 refine atCall [] (c_spec_l9Place [] a) ?_ ?_ <;> simp -implicitDefEqProofs only [go_sem]
 have hx:¬ 0 ≤ atomIdx [] a:=by rw [atomIdx_nn]; simp
 simp -implicitDefEqProofs only [go_sem,hx]
 repeat (with_reducible apply And.intro; case left=>omega)
 refine finM' [some 1] ?_ rfl rfl
 simp -implicitDefEqProofs only [go_sem]
 rfl
theorem atoms_room {t:Mod.Form} {d:Nat} {l:List Atom} (hsh:formShape t (d + 1) = true) (hl1:l.length + 2 ^ (d + 1) ≤ 900000) (i:Nat) (hi:i < t.kids.length):(withAtomss l (t.kids.take i)).length + 2 ^ d ≤ 900000:=by
 have hk:=formShape_kids hsh
 have hp:(2:Nat) ^ (d + 1) = 2 * 2 ^ d:=by rw [Nat.pow_succ]; omega
 have hp1:1 ≤ (2:Nat) ^ d:=Nat.one_le_two_pow
 have h1:=withAtomss_len (t.kids.take i) d l (formShapes_take hk.2.2 i)
 have h2:=formManys_le (t.kids.take i) d (formShapes_take hk.2.2 i)
 have h3:(t.kids.take i).length ≤ 1:=by rw [List.length_take]; omega
 have h4:(t.kids.take i).length * (2 ^ d - 1) ≤ 1 * (2 ^ d - 1):=Nat.mul_le_mul_right _ h3
 omega
theorem c_spec_l9Atoms1 (t:Mod.Form) (ih:∀ k ∈ t.kids,∀ (d:Nat) (l:List Atom),formShape k d = true → l.length + 2 ^ d ≤ 900000 → C E.P 105 [.acc 0,av (cForm k)] [some (.acc 46 (rowsAtom l))] (Eq2 (.acc 1) [some .dead,some (.acc 46 (rowsAtom (withAtoms l k)))])) (d:Nat) (l:List Atom)
 (hsh:formShape t d = true) (hl1:l.length + 2 ^ d ≤ 900000) :
 C E.P 105 [.acc 0,av (cForm t)] [some (.acc 46 (rowsAtom l))] (Eq2 (.acc 1) [some .dead,some (.acc 46 (rowsAtom (withAtoms l t)))]):=by
 cases d with
 | zero=>cases t; simp [formShape] at hsh
 | succ d=>
 have hk:=formShape_kids hsh
 have hroom:=atoms_room hsh hl1
 have hp1:1 ≤ (2:Nat) ^ (d + 1):=Nat.one_le_two_pow
 have hLB:=LB_eq
 refine C_goS (nt:=29) (rs:=[.tmp 4]) hm Tryz.func105 rfl rfl rfl rfl rfl (fun hl he=>?_)
 simp -implicitDefEqProofs only [go_sem] at hl ⊢
 rcases Classical.em (t.kind = 1) with hkind | hkind
 ·have kk:=eq_true hkind
  simp -implicitDefEqProofs only [go_sem,kk]
  refine atOwn [] [0,2] (c_spec_l9Add l t.lit.atom (by omega)) ?_ ?_ <;> simp -implicitDefEqProofs only [go_sem]
  refine finM' [some 0,some 2] ?_ rfl rfl
  simp -implicitDefEqProofs only [go_sem]
  rw [withAtoms_eq,if_pos hkind,addAtom]
 ·simp -implicitDefEqProofs only [go_sem,hkind]
  refine loop_go1 hm (fun (i:Nat)=> i ≤ t.kids.length) (fun (i:Nat)=> ⟨mkS 29 .any [(0,.acc 2),(3,.ptr 1 0),(5,iv i)],[some .dead,some (.box (pvs (cForm t))),some (.acc 46 (rowsAtom (withAtomss l (t.kids.take i))))]⟩) (fun (i:Nat)=> t.kids.length - i) (0) ?_ (weakS [some 0,some 1,some 0] ?_ ?_ rfl rfl) ?_
  rotate_left
  ·simp -implicitDefEqProofs only [go_sem]
  ·simp -implicitDefEqProofs only [go_sem]
   all_goals (simp only [withAtomss])
  rotate_left
  ·omega
  ·rintro i hi
   rcases Classical.em (i < t.kids.length) with h1 | h1
   ·simp -implicitDefEqProofs only [go_sem,h1]
    have hc:=ih t.kids[i] (List.getElem_mem h1) d (withAtomss l (t.kids.take i)) (formShapes_mem hk.2.2 _ (List.getElem_mem h1)) (hroom i h1)
    refine atOwn [] [2,3] hc ?_ ?_ <;> simp -implicitDefEqProofs only [go_sem]
    repeat (with_reducible apply And.intro; case left=>omega)
    refine ⟨i + 1,?_,?_,weakS [some 0,some 1,some 3] ?_ ?_ rfl rfl⟩
    rotate_left
    ·show _ < _
     omega
    ·simp -implicitDefEqProofs only [go_sem]
    ·simp -implicitDefEqProofs only [go_sem]
     all_goals (simp only [withAtomss_snoc h1])
    exact h1
   ·have e:t.kids.take i = t.kids:=List.take_of_length_le (by omega)
    simp -implicitDefEqProofs only [go_sem,h1,e]
    refine finM' [some 0,some 2] ?_ rfl rfl
    simp -implicitDefEqProofs only [go_sem]
    rw [withAtoms_eq,if_neg hkind]
theorem c_spec_l9Atoms:∀ (t:Mod.Form) (d:Nat) (l:List Atom),formShape t d = true → l.length + 2 ^ d ≤ 900000 → C E.P 105 [.acc 0,av (cForm t)] [some (.acc 46 (rowsAtom l))] (Eq2 (.acc 1) [some .dead,some (.acc 46 (rowsAtom (withAtoms l t)))]):=
 Form.ind fun k x ks ih d l h1 h2=>c_spec_l9Atoms1 (.mk k x ks) ih d l h1 h2
theorem c_spec_l9Atoms_nil (t:Mod.Form) (hsh:formShape t 5 = true):C E.P 105 [.nilS,av (cForm t)] [] (Eq2 (lv (rowsAtom (withAtoms [] t))) []):=by
 have hk:=formShape_kids hsh
 have hroom:=atoms_room (l:=[]) hsh (by simp)
 have hLB:=LB_eq
 refine C_goS (nt:=29) (rs:=[.tmp 4]) hm Tryz.func105 rfl rfl rfl rfl rfl (fun hl he=>?_)
 simp -implicitDefEqProofs only [go_sem] at hl ⊢
 rcases Classical.em (t.kind = 1) with hkind | hkind
 ·have kk:=eq_true hkind
  simp -implicitDefEqProofs only [go_sem,kk]
  refine atOwn [] [1] (c_spec_l9Add_nil t.lit.atom) ?_ ?_ <;> simp -implicitDefEqProofs only [go_sem]
  refine fin1' ?_
  simp -implicitDefEqProofs only [go_sem]
  rw [withAtoms_eq,if_pos hkind]
  rfl
 ·simp -implicitDefEqProofs only [go_sem,hkind]
  refine loop_go1 hm (fun (i:Nat)=> i ≤ t.kids.length) (fun (i:Nat)=> ⟨mkS 29 .any [(0,.acc 1),(3,.ptr 0 0),(5,iv i)],[some (.box (pvs (cForm t))),some (.acc 46 (rowsAtom (withAtomss [] (t.kids.take i))))]⟩) (fun (i:Nat)=> t.kids.length - i) (0) ?_ (weakS [some 0,none] ?_ ?_ rfl rfl) ?_
  rotate_left
  ·simp -implicitDefEqProofs only [go_sem]
  ·simp -implicitDefEqProofs only [go_sem]
   all_goals (simp [withAtomss,rowsAtom])
  rotate_left
  ·omega
  ·rintro i hi
   rcases Classical.em (i < t.kids.length) with h1 | h1
   ·simp -implicitDefEqProofs only [go_sem,h1]
    have hc:=c_spec_l9Atoms t.kids[i] 4 (withAtomss [] (t.kids.take i)) (formShapes_mem hk.2.2 _ (List.getElem_mem h1)) (hroom i h1)
    refine atOwn [] [1,2] hc ?_ ?_ <;> simp -implicitDefEqProofs only [go_sem]
    repeat (with_reducible apply And.intro; case left=>omega)
    refine ⟨i + 1,?_,?_,weakS [some 0,some 2] ?_ ?_ rfl rfl⟩
    rotate_left
    ·show _ < _
     omega
    ·simp -implicitDefEqProofs only [go_sem]
    ·simp -implicitDefEqProofs only [go_sem]
     all_goals (simp only [withAtomss_snoc h1])
    exact h1
   ·have e:t.kids.take i = t.kids:=List.take_of_length_le (by omega)
    simp -implicitDefEqProofs only [go_sem,h1,e]
    refine fin1' ?_
    simp -implicitDefEqProofs only [go_sem]
    rw [withAtoms_eq,if_neg hkind]
theorem c_spec_l9Right (t:Mod.Form):C E.P 103 [av (cForm t)] [] (Eq2 (bv (isForm t)) []):=by
 have e:=fright_eq t
 unfold fright at e
 have hLB:=LB_eq
 refine C_goS (nt:=16) (rs:=[.tmp 2]) hm Tryz.func103 rfl rfl rfl rfl rfl (fun hl he=>?_)
 simp -implicitDefEqProofs only [go_sem] at hl ⊢
 have hc:=c_spec_l9Shape t 5 (by omega)
 refine atCall [] hc ?_ ?_ <;> simp -implicitDefEqProofs only [go_sem]
 cases h:formShape t 5
 ·simp -implicitDefEqProofs only [go_sem]
  refine fin1' ?_
  simp -implicitDefEqProofs only [go_sem]
  all_goals (simp [← e,h]; done)
 ·have hc:=c_spec_l9Many t 5 (by omega) h
  simp -implicitDefEqProofs only [go_sem]
  refine atCall [] hc ?_ ?_ <;> simp -implicitDefEqProofs only [go_sem]
  rcases Classical.em ((formMany t 5:Int) ≤ 10) with h2 | h2
  ·have h2':formMany t 5 ≤ 10:=by omega
   simp -implicitDefEqProofs only [go_sem,h2]
   refine atCall [] (c_spec_l9Atoms_nil t h) ?_ ?_ <;> simp -implicitDefEqProofs only [go_sem]
   refine fin1' ?_
   simp -implicitDefEqProofs only [go_sem]
   rw [← e,h]
   simp [h2']
   omega
  ·have h2':¬ formMany t 5 ≤ 10:=by omega
   simp -implicitDefEqProofs only [go_sem,h2]
   refine fin1' ?_
   simp -implicitDefEqProofs only [go_sem]
   all_goals (simp [← e,h,h2']; done)
theorem c_spec_l9Lits (l:List Atom) (hl1:l.length ≤ 900000):C E.P 71 [lv (rowsAtom l)] [] (Eq2 (lv (rowsLit (plain l))) []):=by
 have hLB:=LB_eq
 refine C_goS (nt:=21) (rs:=[.tmp 2]) hm Tryz.func71 rfl rfl rfl rfl rfl (fun hl he=>?_)
 simp -implicitDefEqProofs only [go_sem] at hl ⊢
 refine loop_go1 hm (fun (i:Nat)=> i ≤ l.length) (fun (i:Nat)=> ⟨mkS 21 .any [(0,lv (rowsAtom l)),(3,.acc 0),(4,iv i)],[some (.acc 48 (rowsLit (plain (l.take i))))]⟩) (fun (i:Nat)=> l.length - i) (0) ?_ (weakS [some 0] ?_ ?_ rfl rfl) ?_
 rotate_left
 ·simp -implicitDefEqProofs only [go_sem]
 ·simp -implicitDefEqProofs only [go_sem]
  all_goals (simp [plain,rowsLit])
 rotate_left
 ·omega
 ·rintro i hi
  have hv:=plain_len (l.take i)
  have hv2:(l.take i).length = i:=by rw [List.length_take]; omega
  rcases Classical.em (i < l.length) with h1 | h1
  ·simp -implicitDefEqProofs only [go_sem,h1]
   repeat (with_reducible apply And.intro; case left=>omega)
   refine ⟨i + 1,?_,?_,weakS [some 1] ?_ ?_ rfl rfl⟩
   rotate_left
   ·show _ < _
    omega
   ·simp -implicitDefEqProofs only [go_sem]
   ·simp -implicitDefEqProofs only [go_sem]
    all_goals ((rw [plain_snoc h1,← rowsLit_app]; rfl))
   exact h1
  ·have et:l.take i = l:=List.take_of_length_le (by omega)
   simp -implicitDefEqProofs only [go_sem,h1,et]
   refine fin1' ?_
   simp -implicitDefEqProofs only [go_sem]
end Go.Proofs.YtdikjlldidjioaaGreat
