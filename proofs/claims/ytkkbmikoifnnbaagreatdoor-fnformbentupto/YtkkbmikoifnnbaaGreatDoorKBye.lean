/-
  The reference: the walks of texts of atoms, literals and formulas. A step towards the exact laws. The reference: the walk of DrawFormIs. A step towards the laws.
-/
import Derived.Test.YtkkbmikoifnnbaaGreatDoorKByc
import Derived.Test.YtkkbmikoifnnbaaGreatDoorKBEg
import Derived.Test.YtkkbmikoifnnbaaGreatDoorKBEh
set_option linter.unusedVariables false
set_option linter.unusedSimpArgs false
namespace Go.Proofs.YtkkbmikoifnnbaaGreatDoor
open Go.Eng Go.Mod
open Int renaming reduceEq → Z1,reduceLT → Z2,reduceLE → Z3,reduceToNat → Z4
set_option maxRecDepth 100000
set_option maxHeartbeats 400000
theorem c_spec_l16Dec0 (k:Int) (h0:0 ≤ k) (h1:k ≤ 2000000):C E.P 133 [iv k] [] (Eq2 (sv (Lib.itoa k)) []):=by
 have hln:=itoa_len (n:=k) (by omega)
 have hit:Lib.itoa k = Lib.decDigits k.toNat:=by rw [Lib.itoa,if_neg (by omega)]
 rw [hit] at hln ⊢
 have g1:¬ k < -9223372036854775807:=by omega
 have g2:¬ k < 0:=by omega
 have hLB:=LB_eq
 refine C_goS (nt:=31) (rs:=[.tmp 2]) hm Tryz.func133 rfl rfl rfl rfl rfl (fun hl he=>?_)
 simp -implicitDefEqProofs only [go_sem,Z1,Z2,Z3,Z4] at hl ⊢
 try simp -implicitDefEqProofs only [go_sem,Z1,Z2,Z3,Z4,g1,g2]
 try (with_reducible refine ind_andM (by kernel_rfl) ?_)
 refine loop_go2 hm (fun (m:Int) (s:Str)=> 0 ≤ m ∧ m ≤ 2000000 ∧ Lib.decDigits k.toNat = Lib.decDigits m.toNat ++ s) (fun (m:Int) (s:Str)=> ⟨mkS 31 .any [(0,iv m),(3,sv s)],[]⟩) (fun (m:Int) (s:Str)=> m.toNat) (k) (([]:Str)) ?_ (weakS [] ?_ ?_ rfl rfl) ?_
 rotate_left
 ·simp -implicitDefEqProofs only [go_sem,Z1,Z2,Z3,Z4]
  all_goals (first | done | (simp [wks_rfl, *]; done) | (simp [wks_rfl]; done) | (simp; omega) | skip)
 ·simp -implicitDefEqProofs only [go_sem,Z1,Z2,Z3,Z4]
  all_goals (first | done | (simp [wks_rfl, *]; done) | (simp [wks_rfl]; done) | (simp; omega) | skip)
 rotate_left
 ·exact ⟨h0,h1,by simp⟩
 ·rintro m s ⟨hm0,hm1,hd⟩
  have hsl:(Lib.decDigits m.toNat).length + s.length ≤ 21:=by rw [hd,List.length_append] at hln; exact hln
  rcases Classical.em (9 < m) with h3 | h3
  ·have d0:m.tmod 10 = m % 10:=Int.tmod_eq_emod_of_nonneg hm0
   have d1:m.tdiv 10 = m / 10:=Int.tdiv_eq_ediv_of_nonneg hm0
   have hw:IntKind.u8.wrap (48 + m.tmod 10) = 48 + m.tmod 10:=by
    rw [d0]
    exact IntWalk.u8_in _ ⟨by omega,by omega⟩
   rw [decDigits_step (u:=m.toNat) (by omega)] at hd hsl
   try simp -implicitDefEqProofs only [go_sem,Z1,Z2,Z3,Z4,h3,hw]
   try (with_reducible refine ind_andM (by kernel_rfl) ?_)
   repeat (first | with_reducible refine ind_andM (by kernel_rfl) ?_ | (with_reducible apply And.intro; case left=>first | omega | assumption | exact ⟨rowsT_all _,by omega⟩ | exact ⟨rowsI_all _,by omega⟩ | exact ⟨rowsLit_all _,by omega⟩ | exact ⟨rowsLin_all _,by omega⟩ | exact ⟨rowsEq_all _,by omega⟩ | rfl | (simp [*]; done) | (simp; omega) | exact ⟨rowsRat_all _,by omega⟩ | exact ⟨rowsAtom_all _,by omega⟩ | exact ⟨rowsB_all _,by omega⟩ | exact ⟨rowsForm_all _,by omega⟩ | exact ⟨rowsII_all _,by omega⟩))
   refine atOp_by (st_b2s (.tmp 18) 22 9 5 _ _ _ [48 + m.tmod 10] rfl rfl rfl rfl rfl rfl (by simp -implicitDefEqProofs only [go_sem,Z1,Z2,Z3,Z4]; rfl)) ?_
   have hbl:(byS [48 + m.tmod 10]).length = 1:=rfl
   try simp -implicitDefEqProofs only [go_sem,Z1,Z2,Z3,Z4,hbl]
   try (with_reducible refine ind_andM (by kernel_rfl) ?_)
   repeat (first | with_reducible refine ind_andM (by kernel_rfl) ?_ | (with_reducible apply And.intro; case left=>first | omega | assumption | exact ⟨rowsT_all _,by omega⟩ | exact ⟨rowsI_all _,by omega⟩ | exact ⟨rowsLit_all _,by omega⟩ | exact ⟨rowsLin_all _,by omega⟩ | exact ⟨rowsEq_all _,by omega⟩ | rfl | (simp [*]; done) | (simp; omega) | exact ⟨rowsRat_all _,by omega⟩ | exact ⟨rowsAtom_all _,by omega⟩ | exact ⟨rowsB_all _,by omega⟩ | exact ⟨rowsForm_all _,by omega⟩ | exact ⟨rowsII_all _,by omega⟩))
   refine ⟨m.tdiv 10,byS [48 + m.tmod 10] ++ s,?_,?_,weakS [] ?_ ?_ rfl rfl⟩
   rotate_left
   ·show _ < _
    omega
   ·simp -implicitDefEqProofs only [go_sem,Z1,Z2,Z3,Z4]
    all_goals (first | done | (simp [wks_rfl, *]; done) | (simp [wks_rfl]; done) | (simp; omega) | skip)
   ·simp -implicitDefEqProofs only [go_sem,Z1,Z2,Z3,Z4]
    all_goals (first | done | (simp [wks_rfl, *]; done) | (simp [wks_rfl]; done) | (simp; omega) | skip)
   refine ⟨by omega,by omega,?_⟩
   rw [hd,d0,d1]
   have e1:(m / 10).toNat = m.toNat / 10:=by omega
   have e2:(48 + m % 10).toNat = 48 + m.toNat % 10:=by omega
   simp [byS,e1,e2]
  ·have hw:IntKind.u8.wrap (48 + m) = 48 + m:=IntWalk.u8_in _ ⟨by omega,by omega⟩
   have hdm:Lib.decDigits m.toNat = [UInt8.ofNat (48 + m.toNat)]:=Lib.decDigits_one (by omega)
   rw [hdm] at hd
   try simp -implicitDefEqProofs only [go_sem,Z1,Z2,Z3,Z4,h3,hw]
   try (with_reducible refine ind_andM (by kernel_rfl) ?_)
   repeat (first | with_reducible refine ind_andM (by kernel_rfl) ?_ | (with_reducible apply And.intro; case left=>first | omega | assumption | exact ⟨rowsT_all _,by omega⟩ | exact ⟨rowsI_all _,by omega⟩ | exact ⟨rowsLit_all _,by omega⟩ | exact ⟨rowsLin_all _,by omega⟩ | exact ⟨rowsEq_all _,by omega⟩ | rfl | (simp [*]; done) | (simp; omega) | exact ⟨rowsRat_all _,by omega⟩ | exact ⟨rowsAtom_all _,by omega⟩ | exact ⟨rowsB_all _,by omega⟩ | exact ⟨rowsForm_all _,by omega⟩ | exact ⟨rowsII_all _,by omega⟩))
   refine atOp_by (st_b2s (.tmp 27) 22 9 5 _ _ _ [48 + m] rfl rfl rfl rfl rfl rfl (by simp -implicitDefEqProofs only [go_sem,Z1,Z2,Z3,Z4]; rfl)) ?_
   have hbl:(byS [48 + m]).length = 1:=rfl
   try simp -implicitDefEqProofs only [go_sem,Z1,Z2,Z3,Z4,hbl]
   try (with_reducible refine ind_andM (by kernel_rfl) ?_)
   repeat (first | with_reducible refine ind_andM (by kernel_rfl) ?_ | (with_reducible apply And.intro; case left=>first | omega | assumption | exact ⟨rowsT_all _,by omega⟩ | exact ⟨rowsI_all _,by omega⟩ | exact ⟨rowsLit_all _,by omega⟩ | exact ⟨rowsLin_all _,by omega⟩ | exact ⟨rowsEq_all _,by omega⟩ | rfl | (simp [*]; done) | (simp; omega) | exact ⟨rowsRat_all _,by omega⟩ | exact ⟨rowsAtom_all _,by omega⟩ | exact ⟨rowsB_all _,by omega⟩ | exact ⟨rowsForm_all _,by omega⟩ | exact ⟨rowsII_all _,by omega⟩))
   refine fin1' ?_
   simp -implicitDefEqProofs only [go_sem,Z1,Z2,Z3,Z4]
   have e2:(48 + m).toNat = 48 + m.toNat:=by omega
   rw [hd]
   simp [byS,e2]
theorem c_spec_l16Dec (k:Int) (h0:-2000000 ≤ k) (h1:k ≤ 2000000):C E.P 133 [iv k] [] (Eq2 (sv (Lib.itoa k)) []):=by
 rcases Classical.em (0 ≤ k) with h2 | h2
 ·exact c_spec_l16Dec0 k h2 h1
 ·have hln:=itoa_len (n:=-k) (by omega)
  have g1:¬ k < -9223372036854775807:=by omega
  have g2:k < 0:=by omega
  have e:Lib.itoa k = 45 :: Lib.itoa (-k):=by
   have e1:(-k).toNat = k.natAbs:=by omega
   rw [Lib.itoa,if_pos g2,Lib.itoa,if_neg (by omega),e1]
  rw [e]
  have hLB:=LB_eq
  refine C_goS (nt:=31) (rs:=[.tmp 2]) hm Tryz.func133 rfl rfl rfl rfl rfl (fun hl he=>?_)
  simp -implicitDefEqProofs only [go_sem,Z1,Z2,Z3,Z4] at hl ⊢
  try simp -implicitDefEqProofs only [go_sem,Z1,Z2,Z3,Z4,g1,g2]
  try (with_reducible refine ind_andM (by kernel_rfl) ?_)
  repeat (first | with_reducible refine ind_andM (by kernel_rfl) ?_ | (with_reducible apply And.intro; case left=>first | omega | assumption | exact ⟨rowsT_all _,by omega⟩ | exact ⟨rowsI_all _,by omega⟩ | exact ⟨rowsLit_all _,by omega⟩ | exact ⟨rowsLin_all _,by omega⟩ | exact ⟨rowsEq_all _,by omega⟩ | rfl | (simp [*]; done) | (simp; omega) | exact ⟨rowsRat_all _,by omega⟩ | exact ⟨rowsAtom_all _,by omega⟩ | exact ⟨rowsB_all _,by omega⟩ | exact ⟨rowsForm_all _,by omega⟩ | exact ⟨rowsII_all _,by omega⟩))
  refine atCall [] (c_spec_l16Dec0 (-k) (by omega) (by omega)) ?_ ?_ <;> simp -implicitDefEqProofs only [go_sem,Z1,Z2,Z3,Z4]
  try (with_reducible refine ind_andM (by kernel_rfl) ?_)
  repeat (first | with_reducible refine ind_andM (by kernel_rfl) ?_ | (with_reducible apply And.intro; case left=>first | omega | assumption | exact ⟨rowsT_all _,by omega⟩ | exact ⟨rowsI_all _,by omega⟩ | exact ⟨rowsLit_all _,by omega⟩ | exact ⟨rowsLin_all _,by omega⟩ | exact ⟨rowsEq_all _,by omega⟩ | rfl | (simp [*]; done) | (simp; omega) | exact ⟨rowsRat_all _,by omega⟩ | exact ⟨rowsAtom_all _,by omega⟩ | exact ⟨rowsB_all _,by omega⟩ | exact ⟨rowsForm_all _,by omega⟩ | exact ⟨rowsII_all _,by omega⟩))
  refine fin1' ?_
  simp -implicitDefEqProofs only [go_sem,Z1,Z2,Z3,Z4]
theorem c_spec_AtomText (a:Atom):C E.P 101 [av (cAtom a)] [] (Eq2 (sv (if atomWf a then atomText a else [])) []):=by
 have hLB:=LB_eq
 refine C_goS (nt:=57) (rs:=[.tmp 2]) hm Tryz.func101 rfl rfl rfl rfl rfl (fun hl he=>?_)
 simp -implicitDefEqProofs only [go_sem,Z1,Z2,Z3,Z4] at hl ⊢
 refine atCall [] (c_spec_l6Right a) ?_ ?_ <;> simp -implicitDefEqProofs only [go_sem,Z1,Z2,Z3,Z4]
 try (with_reducible refine ind_andM (by kernel_rfl) ?_)
 cases hwf:atomWf a
 ·try simp -implicitDefEqProofs only [go_sem,Z1,Z2,Z3,Z4]
  try (with_reducible refine ind_andM (by kernel_rfl) ?_)
  refine fin1' ?_
  simp -implicitDefEqProofs only [go_sem,Z1,Z2,Z3,Z4]
  rfl
 ·have hlen:=atomText_len hwf
  rw [if_pos rfl]
  try simp -implicitDefEqProofs only [go_sem,Z1,Z2,Z3,Z4]
  try (with_reducible refine ind_andM (by kernel_rfl) ?_)
  rcases atomWf_kind hwf with k | k
  ·obtain ⟨h1,h2⟩:=atomWf_eq hwf k
   have a1:=term_len h1
   have a2:=term_len h2
   have k1:=eq_true k
   try simp -implicitDefEqProofs only [go_sem,Z1,Z2,Z3,Z4,k1]
   try (with_reducible refine ind_andM (by kernel_rfl) ?_)
   refine atCall [] (c_spec_l4Text' a.A h1) ?_ ?_ <;> simp -implicitDefEqProofs only [go_sem,Z1,Z2,Z3,Z4]
   try (with_reducible refine ind_andM (by kernel_rfl) ?_)
   repeat (first | with_reducible refine ind_andM (by kernel_rfl) ?_ | (with_reducible apply And.intro; case left=>first | omega | assumption | exact ⟨rowsT_all _,by omega⟩ | exact ⟨rowsI_all _,by omega⟩ | exact ⟨rowsLit_all _,by omega⟩ | exact ⟨rowsLin_all _,by omega⟩ | exact ⟨rowsEq_all _,by omega⟩ | rfl | (simp [*]; done) | (simp; omega) | exact ⟨rowsRat_all _,by omega⟩ | exact ⟨rowsAtom_all _,by omega⟩ | exact ⟨rowsB_all _,by omega⟩ | exact ⟨rowsForm_all _,by omega⟩ | exact ⟨rowsII_all _,by omega⟩))
   refine atCall [] (c_spec_l4Text' a.B h2) ?_ ?_ <;> simp -implicitDefEqProofs only [go_sem,Z1,Z2,Z3,Z4]
   try (with_reducible refine ind_andM (by kernel_rfl) ?_)
   repeat (first | with_reducible refine ind_andM (by kernel_rfl) ?_ | (with_reducible apply And.intro; case left=>first | omega | assumption | exact ⟨rowsT_all _,by omega⟩ | exact ⟨rowsI_all _,by omega⟩ | exact ⟨rowsLit_all _,by omega⟩ | exact ⟨rowsLin_all _,by omega⟩ | exact ⟨rowsEq_all _,by omega⟩ | rfl | (simp [*]; done) | (simp; omega) | exact ⟨rowsRat_all _,by omega⟩ | exact ⟨rowsAtom_all _,by omega⟩ | exact ⟨rowsB_all _,by omega⟩ | exact ⟨rowsForm_all _,by omega⟩ | exact ⟨rowsII_all _,by omega⟩))
   refine fin1' ?_
   simp -implicitDefEqProofs only [go_sem,Z1,Z2,Z3,Z4]
   simp [atomText,k]
  ·have hne:¬ a.kind = 1:=by omega
   obtain ⟨_,_,h3,h4,h5,h6⟩:=atomWf_sum hwf k
   have hn:=atomTerms_ok hwf
   simp only [atomTerms,k,if_neg (show ¬ (2:Int) = 1 by decide)] at hn
   have ht:=numsGo_times _ _ _ h6 h4
   have b1:=itoa_len (n:=a.bound) (by omega)
   try simp -implicitDefEqProofs only [go_sem,Z1,Z2,Z3,Z4,hne]
   try (with_reducible refine ind_andM (by kernel_rfl) ?_)
   refine loop_go2 hm (fun (i:Nat) (out:Str)=> i ≤ a.nums.length ∧ out.length ≤ i * 145 ∧ sumText a.nums a.times = out ++ sumText (a.nums.drop i) (a.times.drop i)) (fun (i:Nat) (out:Str)=> ⟨mkS 57 .any [(1,.ptr 0 0),(3,sv out),(4,iv i)],[some (.box (pvs (cAtom a)))]⟩) (fun (i:Nat) (out:Str)=> a.nums.length - i) (0) (([]:Str)) ?_ (weakS [some 0] ?_ ?_ rfl rfl) ?_
   rotate_left
   ·simp -implicitDefEqProofs only [go_sem,Z1,Z2,Z3,Z4]
    all_goals (first | done | (simp [wks_rfl, *]; done) | (simp [wks_rfl]; done) | (simp; omega) | skip)
   ·simp -implicitDefEqProofs only [go_sem,Z1,Z2,Z3,Z4]
    all_goals (first | done | (simp [wks_rfl, *]; done) | (simp [wks_rfl]; done) | (simp; omega) | skip)
   rotate_left
   ·exact ⟨by omega,by simp,rfl⟩
   ·rintro i out ⟨hi,hol,hg⟩
    rcases Classical.em (i < a.nums.length) with h1 | h1
    ·have h2:i < a.times.length:=by omega
     have hti:=hn.2 _ (List.getElem_mem h1)
     have hni:=ht _ (List.getElem_mem h2)
     have a1:=term_len hti
     have a2:=itoa_len (n:=a.times[i]) (by omega)
     rw [sumText_drop h1 h2,← List.append_assoc] at hg
     try simp -implicitDefEqProofs only [go_sem,Z1,Z2,Z3,Z4,h1,h2]
     try (with_reducible refine ind_andM (by kernel_rfl) ?_)
     repeat (first | with_reducible refine ind_andM (by kernel_rfl) ?_ | (with_reducible apply And.intro; case left=>first | omega | assumption | exact ⟨rowsT_all _,by omega⟩ | exact ⟨rowsI_all _,by omega⟩ | exact ⟨rowsLit_all _,by omega⟩ | exact ⟨rowsLin_all _,by omega⟩ | exact ⟨rowsEq_all _,by omega⟩ | rfl | (simp [*]; done) | (simp; omega) | exact ⟨rowsRat_all _,by omega⟩ | exact ⟨rowsAtom_all _,by omega⟩ | exact ⟨rowsB_all _,by omega⟩ | exact ⟨rowsForm_all _,by omega⟩ | exact ⟨rowsII_all _,by omega⟩))
     refine atCall [] (c_spec_l16Dec a.times[i] (by omega) (by omega)) ?_ ?_ <;> simp -implicitDefEqProofs only [go_sem,Z1,Z2,Z3,Z4,h1,h2]
     try (with_reducible refine ind_andM (by kernel_rfl) ?_)
     repeat (first | with_reducible refine ind_andM (by kernel_rfl) ?_ | (with_reducible apply And.intro; case left=>first | omega | assumption | exact ⟨rowsT_all _,by omega⟩ | exact ⟨rowsI_all _,by omega⟩ | exact ⟨rowsLit_all _,by omega⟩ | exact ⟨rowsLin_all _,by omega⟩ | exact ⟨rowsEq_all _,by omega⟩ | rfl | (simp [*]; done) | (simp; omega) | exact ⟨rowsRat_all _,by omega⟩ | exact ⟨rowsAtom_all _,by omega⟩ | exact ⟨rowsB_all _,by omega⟩ | exact ⟨rowsForm_all _,by omega⟩ | exact ⟨rowsII_all _,by omega⟩))
     refine atCall [] (c_spec_l4Text' a.nums[i] hti) ?_ ?_ <;> simp -implicitDefEqProofs only [go_sem,Z1,Z2,Z3,Z4]
     try (with_reducible refine ind_andM (by kernel_rfl) ?_)
     repeat (first | with_reducible refine ind_andM (by kernel_rfl) ?_ | (with_reducible apply And.intro; case left=>first | omega | assumption | exact ⟨rowsT_all _,by omega⟩ | exact ⟨rowsI_all _,by omega⟩ | exact ⟨rowsLit_all _,by omega⟩ | exact ⟨rowsLin_all _,by omega⟩ | exact ⟨rowsEq_all _,by omega⟩ | rfl | (simp [*]; done) | (simp; omega) | exact ⟨rowsRat_all _,by omega⟩ | exact ⟨rowsAtom_all _,by omega⟩ | exact ⟨rowsB_all _,by omega⟩ | exact ⟨rowsForm_all _,by omega⟩ | exact ⟨rowsII_all _,by omega⟩))
     refine ⟨i + 1,out ++ (Lib.itoa a.times[i] ++ (42 :: (termText a.nums[i] ++ [32]))),?_,?_,weakS [some 0] ?_ ?_ rfl rfl⟩
     rotate_left
     ·show _ < _
      omega
     ·simp -implicitDefEqProofs only [go_sem,Z1,Z2,Z3,Z4]
      all_goals (first | done | ((simp; done)) | (simp [wks_rfl, *]; done) | (simp [wks_rfl]; done) | (simp; omega) | skip)
     ·simp -implicitDefEqProofs only [go_sem,Z1,Z2,Z3,Z4]
      all_goals (first | done | ((simp; done)) | (simp [wks_rfl, *]; done) | (simp [wks_rfl]; done) | (simp; omega) | skip)
     exact ⟨h1,by simp only [List.length_append,List.length_cons,List.length_nil]; omega,hg⟩
    ·rw [sumText_end (by omega),List.append_nil] at hg
     try simp -implicitDefEqProofs only [go_sem,Z1,Z2,Z3,Z4,h1]
     try (with_reducible refine ind_andM (by kernel_rfl) ?_)
     cases hst:a.strict
     ·try simp -implicitDefEqProofs only [go_sem,Z1,Z2,Z3,Z4,hst]
      try (with_reducible refine ind_andM (by kernel_rfl) ?_)
      repeat (first | with_reducible refine ind_andM (by kernel_rfl) ?_ | (with_reducible apply And.intro; case left=>first | omega | assumption | exact ⟨rowsT_all _,by omega⟩ | exact ⟨rowsI_all _,by omega⟩ | exact ⟨rowsLit_all _,by omega⟩ | exact ⟨rowsLin_all _,by omega⟩ | exact ⟨rowsEq_all _,by omega⟩ | rfl | (simp [*]; done) | (simp; omega) | exact ⟨rowsRat_all _,by omega⟩ | exact ⟨rowsAtom_all _,by omega⟩ | exact ⟨rowsB_all _,by omega⟩ | exact ⟨rowsForm_all _,by omega⟩ | exact ⟨rowsII_all _,by omega⟩))
      refine atCall [] (c_spec_l16Dec a.bound (by omega) (by omega)) ?_ ?_ <;> simp -implicitDefEqProofs only [go_sem,Z1,Z2,Z3,Z4]
      try (with_reducible refine ind_andM (by kernel_rfl) ?_)
      repeat (first | with_reducible refine ind_andM (by kernel_rfl) ?_ | (with_reducible apply And.intro; case left=>first | omega | assumption | exact ⟨rowsT_all _,by omega⟩ | exact ⟨rowsI_all _,by omega⟩ | exact ⟨rowsLit_all _,by omega⟩ | exact ⟨rowsLin_all _,by omega⟩ | exact ⟨rowsEq_all _,by omega⟩ | rfl | (simp [*]; done) | (simp; omega) | exact ⟨rowsRat_all _,by omega⟩ | exact ⟨rowsAtom_all _,by omega⟩ | exact ⟨rowsB_all _,by omega⟩ | exact ⟨rowsForm_all _,by omega⟩ | exact ⟨rowsII_all _,by omega⟩))
      refine fin1' ?_
      simp -implicitDefEqProofs only [go_sem,Z1,Z2,Z3,Z4]
      rw [atomText,if_neg hne,hg]
      simp [signT,hst]
     ·try simp -implicitDefEqProofs only [go_sem,Z1,Z2,Z3,Z4,hst]
      try (with_reducible refine ind_andM (by kernel_rfl) ?_)
      repeat (first | with_reducible refine ind_andM (by kernel_rfl) ?_ | (with_reducible apply And.intro; case left=>first | omega | assumption | exact ⟨rowsT_all _,by omega⟩ | exact ⟨rowsI_all _,by omega⟩ | exact ⟨rowsLit_all _,by omega⟩ | exact ⟨rowsLin_all _,by omega⟩ | exact ⟨rowsEq_all _,by omega⟩ | rfl | (simp [*]; done) | (simp; omega) | exact ⟨rowsRat_all _,by omega⟩ | exact ⟨rowsAtom_all _,by omega⟩ | exact ⟨rowsB_all _,by omega⟩ | exact ⟨rowsForm_all _,by omega⟩ | exact ⟨rowsII_all _,by omega⟩))
      refine atCall [] (c_spec_l16Dec a.bound (by omega) (by omega)) ?_ ?_ <;> simp -implicitDefEqProofs only [go_sem,Z1,Z2,Z3,Z4]
      try (with_reducible refine ind_andM (by kernel_rfl) ?_)
      repeat (first | with_reducible refine ind_andM (by kernel_rfl) ?_ | (with_reducible apply And.intro; case left=>first | omega | assumption | exact ⟨rowsT_all _,by omega⟩ | exact ⟨rowsI_all _,by omega⟩ | exact ⟨rowsLit_all _,by omega⟩ | exact ⟨rowsLin_all _,by omega⟩ | exact ⟨rowsEq_all _,by omega⟩ | rfl | (simp [*]; done) | (simp; omega) | exact ⟨rowsRat_all _,by omega⟩ | exact ⟨rowsAtom_all _,by omega⟩ | exact ⟨rowsB_all _,by omega⟩ | exact ⟨rowsForm_all _,by omega⟩ | exact ⟨rowsII_all _,by omega⟩))
      refine fin1' ?_
      simp -implicitDefEqProofs only [go_sem,Z1,Z2,Z3,Z4]
      rw [atomText,if_neg hne,hg]
      simp [signT,hst]
theorem atomText_ne (a:Atom):atomText a ≠ []:=by
 unfold atomText
 split
 ·simp
 ·cases a.strict <;> simp [signT]
theorem c_spec_LitText (l:LitD) (hwf:atomWf l.atom = true):C E.P 59 [av (cLit l)] [] (Eq2 (sv (litText l)) []):=by
 have hlen:=litText_len hwf
 have hne:=atomText_ne l.atom
 have hLB:=LB_eq
 refine C_goS (nt:=16) (rs:=[.tmp 2]) hm Tryz.func59 rfl rfl rfl rfl rfl (fun hl he=>?_)
 simp -implicitDefEqProofs only [go_sem,Z1,Z2,Z3,Z4] at hl ⊢
 refine atCall [] (c_spec_AtomText l.atom) ?_ ?_ <;> simp -implicitDefEqProofs only [go_sem,Z1,Z2,Z3,Z4]
 try (with_reducible refine ind_andM (by kernel_rfl) ?_)
 rw [if_pos hwf]
 cases h:l.no
 ·try simp -implicitDefEqProofs only [go_sem,Z1,Z2,Z3,Z4,h]
  try (with_reducible refine ind_andM (by kernel_rfl) ?_)
  refine fin1' ?_
  simp -implicitDefEqProofs only [go_sem,Z1,Z2,Z3,Z4]
  simp [litText,h]
 ·rw [litText,if_pos h,List.length_append] at hlen
  try simp -implicitDefEqProofs only [go_sem,Z1,Z2,Z3,Z4,h,hne]
  try (with_reducible refine ind_andM (by kernel_rfl) ?_)
  repeat (first | with_reducible refine ind_andM (by kernel_rfl) ?_ | (with_reducible apply And.intro; case left=>first | omega | assumption | exact ⟨rowsT_all _,by omega⟩ | exact ⟨rowsI_all _,by omega⟩ | exact ⟨rowsLit_all _,by omega⟩ | exact ⟨rowsLin_all _,by omega⟩ | exact ⟨rowsEq_all _,by omega⟩ | rfl | (simp [*]; done) | (simp; omega) | exact ⟨rowsRat_all _,by omega⟩ | exact ⟨rowsAtom_all _,by omega⟩ | exact ⟨rowsB_all _,by omega⟩ | exact ⟨rowsForm_all _,by omega⟩ | exact ⟨rowsII_all _,by omega⟩))
  refine fin1' ?_
  simp -implicitDefEqProofs only [go_sem,Z1,Z2,Z3,Z4]
  simp [litText,h]
def textF (t:Mod.Form) (i:Nat):Str:=markK t.kind ++ 40 :: commas ((t.kids.take i).map fText)
theorem textF_step {t:Mod.Form} {i:Nat} (h:i + 1 < t.kids.length):textF t (i + 1 + 1) = textF t (i + 1) ++ (44 :: fText t.kids[i + 1]):=by
 have hn:(t.kids.take (i + 1)).map fText ≠ []:=by
  intro e
  have:=congrArg List.length e
  rw [List.length_map,List.length_take,List.length_nil] at this
  omega
 simp only [textF]
 rw [take_snoc h,List.map_append,List.map_cons,List.map_nil,Mod.commas_snoc _ _ hn]
 simp
theorem textF_one {t:Mod.Form} (h:0 < t.kids.length):textF t 1 = textF t 0 ++ fText t.kids[0]:=by
 have e:t.kids.take 1 = [t.kids[0]]:=by rw [show (1:Nat) = 0 + 1 from rfl,take_snoc h]; rfl
 simp only [textF]
 rw [e]
 simp [commas]
theorem textF_len {t:Mod.Form} {d:Nat} (hd:d ≤ 4) (h:formShape t (d + 1) = true) {i:Nat} (hi:i ≤ t.kids.length):(textF t i).length ≤ 100000:=by
 obtain ⟨_,h2,h3⟩:=formShape_kids h
 have hb:∀ x ∈ (t.kids.take i).map fText,x.length ≤ 22752:=by
  intro x hx
  obtain ⟨y,hy,rfl⟩:=List.mem_map.1 hx
  exact fText_len' (by omega) (formShapes_mem h3 y (List.mem_of_mem_take hy))
 have hc:=commas_len _ _ hb
 have hm:=markK_len t.kind
 rw [List.length_map,List.length_take] at hc
 simp only [textF,List.length_append,List.length_cons]
 omega
theorem c_spec_l9Text1 (t:Mod.Form) (ih:∀ k ∈ t.kids,∀ d:Nat,d ≤ 5 → formShape k d = true → C E.P 28 [av (cForm k)] [] (Eq2 (sv (fText k)) [])) (d:Nat) (hd:d ≤ 5) (hsh:formShape t d = true) :
 C E.P 28 [av (cForm t)] [] (Eq2 (sv (fText t)) []):=by
 cases d with
 | zero=>cases t; simp [formShape] at hsh
 | succ d=>
 have hlen:=fText_len' hd hsh
 have hlt:=fun i hi=>textF_len (by omega) hsh (i:=i) hi
 obtain ⟨_,hk2,hks⟩:=formShape_kids hsh
 rw [fText_eq] at hlen ⊢
 have hLB:=LB_eq
 refine C_goS (nt:=43) (rs:=[.tmp 2]) hm Tryz.func28 rfl rfl rfl rfl rfl (fun hl he=>?_)
 simp -implicitDefEqProofs only [go_sem,Z1,Z2,Z3,Z4] at hl ⊢
 rcases formKind hsh with ⟨k,ha,_⟩ | ⟨hk,hne⟩
 ·have k1:=eq_true k
  have h1:=litText_len ha
  rw [if_pos k] at hlen ⊢
  try simp -implicitDefEqProofs only [go_sem,Z1,Z2,Z3,Z4,k1]
  try (with_reducible refine ind_andM (by kernel_rfl) ?_)
  refine atCall [] (c_spec_LitText t.lit ha) ?_ ?_ <;> simp -implicitDefEqProofs only [go_sem,Z1,Z2,Z3,Z4]
  try (with_reducible refine ind_andM (by kernel_rfl) ?_)
  repeat (first | with_reducible refine ind_andM (by kernel_rfl) ?_ | (with_reducible apply And.intro; case left=>first | omega | assumption | exact ⟨rowsT_all _,by omega⟩ | exact ⟨rowsI_all _,by omega⟩ | exact ⟨rowsLit_all _,by omega⟩ | exact ⟨rowsLin_all _,by omega⟩ | exact ⟨rowsEq_all _,by omega⟩ | rfl | (simp [*]; done) | (simp; omega) | exact ⟨rowsRat_all _,by omega⟩ | exact ⟨rowsAtom_all _,by omega⟩ | exact ⟨rowsB_all _,by omega⟩ | exact ⟨rowsForm_all _,by omega⟩ | exact ⟨rowsII_all _,by omega⟩))
  refine fin1' ?_
  simp -implicitDefEqProofs only [go_sem,Z1,Z2,Z3,Z4]
 ·have k1:¬ t.kind = 1:=by omega
  rw [if_neg k1,fTexts_map] at hlen ⊢
  have hmk:=markK_len t.kind
  simp only [List.length_cons,List.length_append,List.length_nil] at hlen
  have hrow:row [[D.str [33]],[D.str [38]],[D.str [124]],[D.str [62]],[D.str [126]]] (t.kind - 2).toNat = [D.str (markK t.kind)]:=by
   rcases hk with k | k | k | k | k <;> rw [k] <;> rfl
  try simp -implicitDefEqProofs only [go_sem,Z1,Z2,Z3,Z4,k1,hrow]
  try (with_reducible refine ind_andM (by kernel_rfl) ?_)
  repeat (first | with_reducible refine ind_andM (by kernel_rfl) ?_ | (with_reducible apply And.intro; case left=>first | omega | assumption | exact ⟨rowsT_all _,by omega⟩ | exact ⟨rowsI_all _,by omega⟩ | exact ⟨rowsLit_all _,by omega⟩ | exact ⟨rowsLin_all _,by omega⟩ | exact ⟨rowsEq_all _,by omega⟩ | rfl | (simp [*]; done) | (simp; omega) | exact ⟨rowsRat_all _,by omega⟩ | exact ⟨rowsAtom_all _,by omega⟩ | exact ⟨rowsB_all _,by omega⟩ | exact ⟨rowsForm_all _,by omega⟩ | exact ⟨rowsII_all _,by omega⟩))
  refine loop_go1 hm (fun (i:Nat)=> i ≤ t.kids.length) (fun (i:Nat)=> ⟨mkS 43 .any [(1,.ptr 0 0),(4,sv (textF t i)),(5,iv i)],[some (.box (pvs (cForm t)))]⟩) (fun (i:Nat)=> t.kids.length - i) (0) ?_ (weakS [some 0] ?_ ?_ rfl rfl) ?_
  rotate_left
  ·simp -implicitDefEqProofs only [go_sem,Z1,Z2,Z3,Z4]
   all_goals (first | done | (simp [textF,commas]) | (simp [wks_rfl, *]; done) | (simp [wks_rfl]; done) | (simp; omega) | skip)
  ·simp -implicitDefEqProofs only [go_sem,Z1,Z2,Z3,Z4]
   all_goals (first | done | (simp [textF,commas]) | (simp [wks_rfl, *]; done) | (simp [wks_rfl]; done) | (simp; omega) | skip)
  rotate_left
  ·omega
  ·rintro i hi
   rcases Classical.em (i < t.kids.length) with h1 | h1
   ·have hc:=ih t.kids[i] (List.getElem_mem h1) d (by omega) (formShapes_mem hks _ (List.getElem_mem h1))
    have b1:=fText_len' (by omega) (formShapes_mem hks _ (List.getElem_mem h1))
    have b2:=hlt i hi
    cases i with
    | zero=>
      have hst:=textF_one h1
      have e0:(0:Int) < (t.kids.length:Int):=by omega
      try simp -implicitDefEqProofs only [go_sem,Z1,Z2,Z3,Z4,h1,e0]
      try (with_reducible refine ind_andM (by kernel_rfl) ?_)
      repeat (first | with_reducible refine ind_andM (by kernel_rfl) ?_ | (with_reducible apply And.intro; case left=>first | omega | assumption | exact ⟨rowsT_all _,by omega⟩ | exact ⟨rowsI_all _,by omega⟩ | exact ⟨rowsLit_all _,by omega⟩ | exact ⟨rowsLin_all _,by omega⟩ | exact ⟨rowsEq_all _,by omega⟩ | rfl | (simp [*]; done) | (simp; omega) | exact ⟨rowsRat_all _,by omega⟩ | exact ⟨rowsAtom_all _,by omega⟩ | exact ⟨rowsB_all _,by omega⟩ | exact ⟨rowsForm_all _,by omega⟩ | exact ⟨rowsII_all _,by omega⟩))
      refine atCall [] hc ?_ ?_ <;> simp -implicitDefEqProofs only [go_sem,Z1,Z2,Z3,Z4]
      try (with_reducible refine ind_andM (by kernel_rfl) ?_)
      repeat (first | with_reducible refine ind_andM (by kernel_rfl) ?_ | (with_reducible apply And.intro; case left=>first | omega | assumption | exact ⟨rowsT_all _,by omega⟩ | exact ⟨rowsI_all _,by omega⟩ | exact ⟨rowsLit_all _,by omega⟩ | exact ⟨rowsLin_all _,by omega⟩ | exact ⟨rowsEq_all _,by omega⟩ | rfl | (simp [*]; done) | (simp; omega) | exact ⟨rowsRat_all _,by omega⟩ | exact ⟨rowsAtom_all _,by omega⟩ | exact ⟨rowsB_all _,by omega⟩ | exact ⟨rowsForm_all _,by omega⟩ | exact ⟨rowsII_all _,by omega⟩))
      refine ⟨0 + 1,?_,?_,weakS [some 0] ?_ ?_ rfl rfl⟩
      rotate_left
      ·show _ < _
       omega
      ·simp -implicitDefEqProofs only [go_sem,Z1,Z2,Z3,Z4]
       all_goals (first | done | ((rw [hst]; simp)) | (simp [wks_rfl, *]; done) | (simp [wks_rfl]; done) | (simp; omega) | skip)
      ·simp -implicitDefEqProofs only [go_sem,Z1,Z2,Z3,Z4]
       all_goals (first | done | ((rw [hst]; simp)) | (simp [wks_rfl, *]; done) | (simp [wks_rfl]; done) | (simp; omega) | skip)
      exact h1
    | succ i=>
      have e1:¬ (i:Int) + 1 = 0:=by omega
      have e2:(0:Int) < (i:Int) + 1:=by omega
      have et:((i:Int) + 1).toNat = i + 1:=by omega
      have hst:=textF_step h1
      have e3:(i:Int) + 1 < (t.kids.length:Int):=by omega
      try simp -implicitDefEqProofs only [go_sem,Z1,Z2,Z3,Z4,e1,e2,e3,et,h1]
      try (with_reducible refine ind_andM (by kernel_rfl) ?_)
      repeat (first | with_reducible refine ind_andM (by kernel_rfl) ?_ | (with_reducible apply And.intro; case left=>first | omega | assumption | exact ⟨rowsT_all _,by omega⟩ | exact ⟨rowsI_all _,by omega⟩ | exact ⟨rowsLit_all _,by omega⟩ | exact ⟨rowsLin_all _,by omega⟩ | exact ⟨rowsEq_all _,by omega⟩ | rfl | (simp [*]; done) | (simp; omega) | exact ⟨rowsRat_all _,by omega⟩ | exact ⟨rowsAtom_all _,by omega⟩ | exact ⟨rowsB_all _,by omega⟩ | exact ⟨rowsForm_all _,by omega⟩ | exact ⟨rowsII_all _,by omega⟩))
      refine atCall [] hc ?_ ?_ <;> simp -implicitDefEqProofs only [go_sem,Z1,Z2,Z3,Z4]
      try (with_reducible refine ind_andM (by kernel_rfl) ?_)
      repeat (first | with_reducible refine ind_andM (by kernel_rfl) ?_ | (with_reducible apply And.intro; case left=>first | omega | assumption | exact ⟨rowsT_all _,by omega⟩ | exact ⟨rowsI_all _,by omega⟩ | exact ⟨rowsLit_all _,by omega⟩ | exact ⟨rowsLin_all _,by omega⟩ | exact ⟨rowsEq_all _,by omega⟩ | rfl | (simp [*]; done) | (simp; omega) | exact ⟨rowsRat_all _,by omega⟩ | exact ⟨rowsAtom_all _,by omega⟩ | exact ⟨rowsB_all _,by omega⟩ | exact ⟨rowsForm_all _,by omega⟩ | exact ⟨rowsII_all _,by omega⟩))
      refine ⟨i + 1 + 1,?_,?_,weakS [some 0] ?_ ?_ rfl rfl⟩
      rotate_left
      ·show _ < _
       omega
      ·simp -implicitDefEqProofs only [go_sem,Z1,Z2,Z3,Z4]
       all_goals (first | done | ((rw [hst]; simp)) | (simp [wks_rfl, *]; done) | (simp [wks_rfl]; done) | (simp; omega) | skip)
      ·simp -implicitDefEqProofs only [go_sem,Z1,Z2,Z3,Z4]
       all_goals (first | done | ((rw [hst]; simp)) | (simp [wks_rfl, *]; done) | (simp [wks_rfl]; done) | (simp; omega) | skip)
      exact h1
   ·have hi2:i = t.kids.length:=by omega
    subst hi2
    have b2:=hlt _ (Nat.le_refl _)
    have ee:textF t t.kids.length ++ [41] = markK t.kind ++ 40 :: (commas (t.kids.map fText) ++ [41]):=by rw [textF,List.take_length]; simp
    try simp -implicitDefEqProofs only [go_sem,Z1,Z2,Z3,Z4,h1]
    try (with_reducible refine ind_andM (by kernel_rfl) ?_)
    repeat (first | with_reducible refine ind_andM (by kernel_rfl) ?_ | (with_reducible apply And.intro; case left=>first | omega | assumption | exact ⟨rowsT_all _,by omega⟩ | exact ⟨rowsI_all _,by omega⟩ | exact ⟨rowsLit_all _,by omega⟩ | exact ⟨rowsLin_all _,by omega⟩ | exact ⟨rowsEq_all _,by omega⟩ | rfl | (simp [*]; done) | (simp; omega) | exact ⟨rowsRat_all _,by omega⟩ | exact ⟨rowsAtom_all _,by omega⟩ | exact ⟨rowsB_all _,by omega⟩ | exact ⟨rowsForm_all _,by omega⟩ | exact ⟨rowsII_all _,by omega⟩))
    refine fin1' ?_
    simp -implicitDefEqProofs only [go_sem,Z1,Z2,Z3,Z4]
    exact congrArg D.str ee
theorem c_spec_l9Text:∀ (t:Mod.Form) (d:Nat),d ≤ 5 → formShape t d = true → C E.P 28 [av (cForm t)] [] (Eq2 (sv (fText t)) []):=
 Form.ind fun k l ks ih d h1 h2=>c_spec_l9Text1 (.mk k l ks) ih d h1 h2
theorem c_spec_FormText (t:Mod.Form):C E.P 8 [av (cForm t)] [] (Eq2 (sv (formText t)) []):=by
 have hLB:=LB_eq
 refine C_goS (nt:=8) (rs:=[.tmp 2]) hm Tryz.func8 rfl rfl rfl rfl rfl (fun hl he=>?_)
 simp -implicitDefEqProofs only [go_sem,Z1,Z2,Z3,Z4] at hl ⊢
 refine atCall [] (c_spec_l9Right t) ?_ ?_ <;> simp -implicitDefEqProofs only [go_sem,Z1,Z2,Z3,Z4]
 try (with_reducible refine ind_andM (by kernel_rfl) ?_)
 cases h1:isForm t
 ·try simp -implicitDefEqProofs only [go_sem,Z1,Z2,Z3,Z4]
  try (with_reducible refine ind_andM (by kernel_rfl) ?_)
  refine fin1' ?_
  simp -implicitDefEqProofs only [go_sem,Z1,Z2,Z3,Z4]
  all_goals (first | done | (simp [formText,h1]; done) | (simp [formText,h1]; omega) | skip)
 ·have hs:=isForm_shape h1
  try simp -implicitDefEqProofs only [go_sem,Z1,Z2,Z3,Z4]
  try (with_reducible refine ind_andM (by kernel_rfl) ?_)
  refine atCall [] (c_spec_l9Text t 5 (by omega) hs.1) ?_ ?_ <;> simp -implicitDefEqProofs only [go_sem,Z1,Z2,Z3,Z4]
  try (with_reducible refine ind_andM (by kernel_rfl) ?_)
  refine fin1' ?_
  simp -implicitDefEqProofs only [go_sem,Z1,Z2,Z3,Z4]
  all_goals (first | done | (simp [formText,h1]; done) | (simp [formText,h1]; omega) | skip)
end Go.Proofs.YtkkbmikoifnnbaaGreatDoor
namespace Go.Proofs.YtkkbmikoifnnbaaGreatDoor
open Go.Eng Go.Mod
open Int renaming reduceEq → Z1,reduceLT → Z2,reduceLE → Z3,reduceToNat → Z4
set_option maxRecDepth 100000
set_option maxHeartbeats 400000
theorem c_spec_l6Copy_D (a:Atom) (hb9:a.times.length ≤ 8000000):C E.P 53 [av (cAtom a)] [] (Eq2 (av (cAtom a)) []):=by
 have ht:=rowsI_all a.times
 have hLB:=LB_eq
 refine C_goS (nt:=41) (rs:=[.cell 2 28]) hm Tryz.func53 rfl rfl rfl rfl rfl (fun hl he=>?_)
 simp -implicitDefEqProofs only [go_sem,Z1,Z2,Z3,Z4] at hl ⊢
 refine atCall [] (c_spec_l4Copy a.A) ?_ ?_ <;> simp -implicitDefEqProofs only [go_sem,Z1,Z2,Z3,Z4]
 try (with_reducible refine ind_andM (by kernel_rfl) ?_)
 refine atCall [] (c_spec_l4Copy a.B) ?_ ?_ <;> simp -implicitDefEqProofs only [go_sem,Z1,Z2,Z3,Z4]
 try (with_reducible refine ind_andM (by kernel_rfl) ?_)
 repeat (first | with_reducible refine ind_andM (by kernel_rfl) ?_ | (with_reducible apply And.intro; case left=>first | omega | assumption | exact ⟨rowsT_all _,by omega⟩ | exact ⟨rowsI_all _,by omega⟩ | exact ⟨rowsLit_all _,by omega⟩ | exact ⟨rowsLin_all _,by omega⟩ | exact ⟨rowsEq_all _,by omega⟩ | rfl | (simp [*]; done) | (simp; omega) | exact ⟨rowsRat_all _,by omega⟩ | exact ⟨rowsAtom_all _,by omega⟩ | exact ⟨rowsB_all _,by omega⟩ | exact ⟨rowsForm_all _,by omega⟩ | exact ⟨rowsII_all _,by omega⟩))
 refine loop_go1 hm (fun (i:Nat)=> i ≤ a.nums.length) (fun (i:Nat)=> ⟨mkS 41 .any [(1,.ptr 0 0),(2,.ptr 1 0),(3,.ptr 3 0),(4,iv i)],[some (.box (pvs (cAtom a))),some (.box [iv 0,sv [],.nilS,sv [],.nilS,.nilS,.nilS,iv 0,bv false]),some (.acc 3 (rowsI a.times)),some (.box [iv a.kind,sv a.A.name,lv (rowsT a.A.kids),sv a.B.name,lv (rowsT a.B.kids),.acc 4,.acc 2,iv a.bound,bv a.strict]),some (.acc 25 (rowsT (a.nums.take i)))]⟩) (fun (i:Nat)=> a.nums.length - i) (0) ?_ (weakS [some 0,some 1,some 3,some 4,none] ?_ ?_ rfl rfl) ?_
 rotate_left
 ·simp -implicitDefEqProofs only [go_sem,Z1,Z2,Z3,Z4]
  all_goals (first | done | (rfl) | (simp [wks_rfl, *]; done) | (simp [wks_rfl]; done) | (simp; omega) | skip)
 ·simp -implicitDefEqProofs only [go_sem,Z1,Z2,Z3,Z4]
  all_goals (first | done | (rfl) | (simp [wks_rfl, *]; done) | (simp [wks_rfl]; done) | (simp; omega) | skip)
 rotate_left
 ·omega
 ·rintro i hi
  rcases Classical.em (i < a.nums.length) with h1 | h1
  ·try simp -implicitDefEqProofs only [go_sem,Z1,Z2,Z3,Z4,h1]
   try (with_reducible refine ind_andM (by kernel_rfl) ?_)
   refine atCall [] (c_spec_l4Copy a.nums[i]) ?_ ?_ <;> simp -implicitDefEqProofs only [go_sem,Z1,Z2,Z3,Z4]
   try (with_reducible refine ind_andM (by kernel_rfl) ?_)
   repeat (first | with_reducible refine ind_andM (by kernel_rfl) ?_ | (with_reducible apply And.intro; case left=>first | omega | assumption | exact ⟨rowsT_all _,by omega⟩ | exact ⟨rowsI_all _,by omega⟩ | exact ⟨rowsLit_all _,by omega⟩ | exact ⟨rowsLin_all _,by omega⟩ | exact ⟨rowsEq_all _,by omega⟩ | rfl | (simp [*]; done) | (simp; omega) | exact ⟨rowsRat_all _,by omega⟩ | exact ⟨rowsAtom_all _,by omega⟩ | exact ⟨rowsB_all _,by omega⟩ | exact ⟨rowsForm_all _,by omega⟩ | exact ⟨rowsII_all _,by omega⟩))
   refine ⟨i + 1,?_,?_,weakS [some 0,some 1,some 2,some 3,some 5] ?_ ?_ rfl rfl⟩
   rotate_left
   ·show _ < _
    omega
   ·simp -implicitDefEqProofs only [go_sem,Z1,Z2,Z3,Z4]
    all_goals (first | done | (exact rowsT_snoc h1) | (simp [wks_rfl, *]; done) | (simp [wks_rfl]; done) | (simp; omega) | skip)
   ·simp -implicitDefEqProofs only [go_sem,Z1,Z2,Z3,Z4]
    all_goals (first | done | (exact rowsT_snoc h1) | (simp [wks_rfl, *]; done) | (simp [wks_rfl]; done) | (simp; omega) | skip)
   exact h1
  ·try simp -implicitDefEqProofs only [go_sem,Z1,Z2,Z3,Z4,h1]
   try (with_reducible refine ind_andM (by kernel_rfl) ?_)
   refine fin1' ?_
   simp -implicitDefEqProofs only [go_sem,Z1,Z2,Z3,Z4]
   rw [List.take_of_length_le (by omega)]
theorem c_spec_FormAtoms_D (t:Mod.Form):C E.P 23 [av (cForm t)] [] (Eq2 (lv (rowsAtom (ownAtoms t))) []):=by
 have hlen:=ownAtoms_len t
 have hti:=ownAtoms_times (f:=t)
 have hLB:=LB_eq
 refine C_goS (nt:=28) (rs:=[.tmp 2]) hm Tryz.func23 rfl rfl rfl rfl rfl (fun hl he=>?_)
 simp -implicitDefEqProofs only [go_sem,Z1,Z2,Z3,Z4] at hl ⊢
 refine atCall [] (c_spec_l9Right t) ?_ ?_ <;> simp -implicitDefEqProofs only [go_sem,Z1,Z2,Z3,Z4]
 try (with_reducible refine ind_andM (by kernel_rfl) ?_)
 cases h:isForm t
 ·have e:ownAtoms t = []:=by simp [ownAtoms,h]
  rw [e]
  try simp -implicitDefEqProofs only [go_sem,Z1,Z2,Z3,Z4]
  try (with_reducible refine ind_andM (by kernel_rfl) ?_)
  refine fin1' ?_
  simp -implicitDefEqProofs only [go_sem,Z1,Z2,Z3,Z4]
 ·have e:ownAtoms t = withAtoms [] t:=by simp [ownAtoms,h]
  rw [e] at hlen hti ⊢
  try simp -implicitDefEqProofs only [go_sem,Z1,Z2,Z3,Z4]
  try (with_reducible refine ind_andM (by kernel_rfl) ?_)
  refine atCall [] (c_spec_l9Atoms_nil t (isForm_shape h).1) ?_ ?_ <;> simp -implicitDefEqProofs only [go_sem,Z1,Z2,Z3,Z4]
  try (with_reducible refine ind_andM (by kernel_rfl) ?_)
  generalize withAtoms [] t = l at hlen hti ⊢
  refine loop_go1 hm (fun (i:Nat)=> i ≤ l.length) (fun (i:Nat)=> ⟨mkS 28 .any [(3,.acc 1),(4,lv (rowsAtom l)),(5,iv i)],[some (.box (pvs (cForm t))),some (.acc 28 (rowsAtom (l.take i)))]⟩) (fun (i:Nat)=> l.length - i) (0) ?_ (weakS [some 0,some 1] ?_ ?_ rfl rfl) ?_
  rotate_left
  ·simp -implicitDefEqProofs only [go_sem,Z1,Z2,Z3,Z4]
   all_goals (first | done | (simp [wks_rfl, *]; done) | (simp [wks_rfl]; done) | (simp; omega) | skip)
  ·simp -implicitDefEqProofs only [go_sem,Z1,Z2,Z3,Z4]
   all_goals (first | done | (simp [wks_rfl, *]; done) | (simp [wks_rfl]; done) | (simp; omega) | skip)
  rotate_left
  ·omega
  ·rintro i hi
   rcases Classical.em (i < l.length) with h1 | h1
   ·have ht:=hti _ (List.getElem_mem h1)
    try simp -implicitDefEqProofs only [go_sem,Z1,Z2,Z3,Z4,h1]
    try (with_reducible refine ind_andM (by kernel_rfl) ?_)
    refine atCall [] (c_spec_l6Copy_D l[i] ht) ?_ ?_ <;> simp -implicitDefEqProofs only [go_sem,Z1,Z2,Z3,Z4]
    try (with_reducible refine ind_andM (by kernel_rfl) ?_)
    repeat (first | with_reducible refine ind_andM (by kernel_rfl) ?_ | (with_reducible apply And.intro; case left=>first | omega | assumption | exact ⟨rowsT_all _,by omega⟩ | exact ⟨rowsI_all _,by omega⟩ | exact ⟨rowsLit_all _,by omega⟩ | exact ⟨rowsLin_all _,by omega⟩ | exact ⟨rowsEq_all _,by omega⟩ | rfl | (simp [*]; done) | (simp; omega) | exact ⟨rowsRat_all _,by omega⟩ | exact ⟨rowsAtom_all _,by omega⟩ | exact ⟨rowsB_all _,by omega⟩ | exact ⟨rowsForm_all _,by omega⟩ | exact ⟨rowsII_all _,by omega⟩))
    refine ⟨i + 1,?_,?_,weakS [some 0,some 2] ?_ ?_ rfl rfl⟩
    rotate_left
    ·show _ < _
     omega
    ·simp -implicitDefEqProofs only [go_sem,Z1,Z2,Z3,Z4]
     all_goals (first | done | (exact rowsAtom_snoc h1) | (simp [wks_rfl, *]; done) | (simp [wks_rfl]; done) | (simp; omega) | skip)
    ·simp -implicitDefEqProofs only [go_sem,Z1,Z2,Z3,Z4]
     all_goals (first | done | (exact rowsAtom_snoc h1) | (simp [wks_rfl, *]; done) | (simp [wks_rfl]; done) | (simp; omega) | skip)
    exact h1
   ·try simp -implicitDefEqProofs only [go_sem,Z1,Z2,Z3,Z4,h1]
    try (with_reducible refine ind_andM (by kernel_rfl) ?_)
    refine fin1' ?_
    simp -implicitDefEqProofs only [go_sem,Z1,Z2,Z3,Z4]
    rw [List.take_of_length_le (by omega)]
theorem c_spec_DrawFormIs (b:List Int) (hb:∀ x ∈ b,0 ≤ x ∧ x ≤ 255) (hl9:b.length ≤ 2000000):C E.P 6 [lv (byD b)] [] (Eq2 (.tup [av (cForm (drawFormIs (b.take 2000)).1),lv (rowsB (drawFormIs (b.take 2000)).2)]) []):=by
 have hO:=openOk hb
 obtain ⟨c,hc⟩:∃ c,b.take 2000 = c:=⟨_,rfl⟩
 have c1:=c_spec_l16Open b hb hl9
 rw [hc] at hO c1 ⊢
 have hL:=someF_b hO (p:=0) (by omega)
 have c2:=c_spec_l9Some c hO 0 (by omega) (by omega)
 have e:drawFormIs c = ((someF c 0).2.1,if pickV c (coinsB c (ownAtoms (someF c 0).2.1).length (someF c 0).2.2 []).2 20 = 0 then (coinsB c (ownAtoms (someF c 0).2.1).length (someF c 0).2.2 []).1 ++ [true] else (coinsB c (ownAtoms (someF c 0).2.1).length (someF c 0).2.2 []).1):=rfl
 rw [e]
 generalize someF c 0 = r at hL c2 ⊢
 obtain ⟨s,f,q⟩:=r
 simp only at hL c2 ⊢
 have hlen:=ownAtoms_len f
 have cA:=c_spec_FormAtoms_D f
 generalize ownAtoms f = l at hlen cA ⊢
 obtain ⟨o,ho⟩:∃ o,coinsB c l.length q [] = o:=⟨_,rfl⟩
 obtain ⟨ho1,ho2⟩:=coinsB_b c l.length q []
 rw [ho] at ho1 ho2 ⊢
 simp only [List.length_nil] at ho2
 have hLB:=LB_eq
 refine C_goS (nt:=38) (rs:=[.cell 2 33,.tmp 3]) hm Tryz.func6 rfl rfl rfl rfl rfl (fun hl he=>?_)
 simp -implicitDefEqProofs only [go_sem,Z1,Z2,Z3,Z4] at hl ⊢
 refine atOwn [] [1] c1 ?_ ?_ <;> simp -implicitDefEqProofs only [go_sem,Z1,Z2,Z3,Z4]
 try (with_reducible refine ind_andM (by kernel_rfl) ?_)
 refine atOwn [] [1] c2 ?_ ?_ <;> simp -implicitDefEqProofs only [go_sem,Z1,Z2,Z3,Z4]
 try (with_reducible refine ind_andM (by kernel_rfl) ?_)
 refine atCall [] cA ?_ ?_ <;> simp -implicitDefEqProofs only [go_sem,Z1,Z2,Z3,Z4]
 try (with_reducible refine ind_andM (by kernel_rfl) ?_)
 refine loop_go3 hm (fun (j:Nat) (z:Int) (out:List Bool)=> j ≤ l.length ∧ z = q + (l.length - j) ∧ out.length = l.length - j ∧ coinsB c j z out = o) (fun (j:Nat) (z:Int) (out:List Bool)=> ⟨mkS 38 .any [(2,.ptr 0 0),(4,.ptr 1 0),(6,.ptr 2 0),(7,.acc 3),(8,iv j)],[some (.box (pvs (cForm form0))),some (rdE c z),some (.box (pvs (cForm f))),some (.acc 4 (rowsB out))]⟩) (fun (j:Nat) (z:Int) (out:List Bool)=> j) (l.length) (q) ([]) ?_ (weakS [some 0,some 1,some 3,some 4] ?_ ?_ rfl rfl) ?_
 rotate_left
 ·simp -implicitDefEqProofs only [go_sem,Z1,Z2,Z3,Z4]
  all_goals (first | done | (((repeat' apply And.intro) <;> rfl)) | (simp [wks_rfl, *]; done) | (simp [wks_rfl]; done) | (simp; omega) | skip)
 ·simp -implicitDefEqProofs only [go_sem,Z1,Z2,Z3,Z4]
  all_goals (first | done | (((repeat' apply And.intro) <;> rfl)) | (simp [wks_rfl, *]; done) | (simp [wks_rfl]; done) | (simp; omega) | skip)
 rotate_left
 ·exact ⟨Nat.le_refl _,by omega,by simp,ho⟩
 ·rintro j z out ⟨hj,hz,hol,hg⟩
  rcases Classical.em ((0:Int) < (j:Int)) with h3 | h3
  ·obtain ⟨j,rfl⟩:∃ j',j = j' + 1:=⟨j - 1,by omega⟩
   have hjs:((j:Int) + 1 - 1) = (j:Int):=by omega
   have h3:(0:Int) < (j:Int) + 1:=by omega
   rw [coinsB] at hg
   try simp -implicitDefEqProofs only [go_sem,Z1,Z2,Z3,Z4,h3]
   try (with_reducible refine ind_andM (by kernel_rfl) ?_)
   refine atOwn [] [1] (c_pick c z 2 hO (by omega) (by omega)) ?_ ?_ <;> simp -implicitDefEqProofs only [go_sem,Z1,Z2,Z3,Z4]
   try (with_reducible refine ind_andM (by kernel_rfl) ?_)
   repeat (first | with_reducible refine ind_andM (by kernel_rfl) ?_ | (with_reducible apply And.intro; case left=>first | omega | assumption | exact ⟨rowsT_all _,by omega⟩ | exact ⟨rowsI_all _,by omega⟩ | exact ⟨rowsLit_all _,by omega⟩ | exact ⟨rowsLin_all _,by omega⟩ | exact ⟨rowsEq_all _,by omega⟩ | rfl | (simp [*]; done) | (simp; omega) | exact ⟨rowsRat_all _,by omega⟩ | exact ⟨rowsAtom_all _,by omega⟩ | exact ⟨rowsB_all _,by omega⟩ | exact ⟨rowsForm_all _,by omega⟩ | exact ⟨rowsII_all _,by omega⟩))
   try simp -implicitDefEqProofs only [go_sem,Z1,Z2,Z3,Z4,hjs]
   try (with_reducible refine ind_andM (by kernel_rfl) ?_)
   refine ⟨j,z + 1,out ++ [decide (pickV c z 2 = 0)],?_,?_,weakS [some 0,some 1,some 2,some 4] ?_ ?_ rfl rfl⟩
   rotate_left
   ·show _ < _
    omega
   ·simp -implicitDefEqProofs only [go_sem,Z1,Z2,Z3,Z4]
    all_goals (first | done | (exact rowsB_app _ [_]) | (simp [wks_rfl, *]; done) | (simp [wks_rfl]; done) | (simp; omega) | skip)
   ·simp -implicitDefEqProofs only [go_sem,Z1,Z2,Z3,Z4]
    all_goals (first | done | (exact rowsB_app _ [_]) | (simp [wks_rfl, *]; done) | (simp [wks_rfl]; done) | (simp; omega) | skip)
   exact ⟨by omega,by omega,by simp; omega,hg⟩
  ·obtain rfl:j = 0:=by omega
   rw [coinsB] at hg
   subst hg
   simp only at ho1 ho2 ⊢
   try simp -implicitDefEqProofs only [go_sem,Z1,Z2,Z3,Z4,h3]
   try (with_reducible refine ind_andM (by kernel_rfl) ?_)
   refine atOwn [] [1] (c_pick c z 20 hO (by omega) (by omega)) ?_ ?_ <;> simp -implicitDefEqProofs only [go_sem,Z1,Z2,Z3,Z4]
   try (with_reducible refine ind_andM (by kernel_rfl) ?_)
   rcases Classical.em (pickV c z 20 = 0) with c0 | c0
   ·have k0:=eq_true c0
    simp only [if_pos c0]
    try simp -implicitDefEqProofs only [go_sem,Z1,Z2,Z3,Z4,k0]
    try (with_reducible refine ind_andM (by kernel_rfl) ?_)
    repeat (first | with_reducible refine ind_andM (by kernel_rfl) ?_ | (with_reducible apply And.intro; case left=>first | omega | assumption | exact ⟨rowsT_all _,by omega⟩ | exact ⟨rowsI_all _,by omega⟩ | exact ⟨rowsLit_all _,by omega⟩ | exact ⟨rowsLin_all _,by omega⟩ | exact ⟨rowsEq_all _,by omega⟩ | rfl | (simp [*]; done) | (simp; omega) | exact ⟨rowsRat_all _,by omega⟩ | exact ⟨rowsAtom_all _,by omega⟩ | exact ⟨rowsB_all _,by omega⟩ | exact ⟨rowsForm_all _,by omega⟩ | exact ⟨rowsII_all _,by omega⟩))
    refine fin1' ?_
    simp -implicitDefEqProofs only [go_sem,Z1,Z2,Z3,Z4]
    exact (rowsB_app _ [_]).symm
   ·simp only [if_neg c0]
    try simp -implicitDefEqProofs only [go_sem,Z1,Z2,Z3,Z4,c0]
    try (with_reducible refine ind_andM (by kernel_rfl) ?_)
    refine fin1' ?_
    simp -implicitDefEqProofs only [go_sem,Z1,Z2,Z3,Z4]
end Go.Proofs.YtkkbmikoifnnbaaGreatDoor
