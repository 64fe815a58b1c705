/-
  The program: the walks of lemmas. A step towards the exact laws.
-/
import Derived.Test.YtlddcknkojieeaaGreatKQh
import Derived.Test.YtlddcknkojieeaaGreatKQE
set_option linter.unusedVariables false
set_option linter.unusedSimpArgs false
namespace Go.Proofs.YtlddcknkojieeaaGreat
open Go.Eng Go.Mod
open Int renaming reduceEq → Z1,reduceLT → Z2,reduceLE → Z3,reduceToNat → Z4
set_option maxRecDepth 100000
set_option maxHeartbeats 400000
theorem c_impl_variable (n:Int) (hn:-60 ≤ n ∧ n ≤ 60):C E.P 108 [iv n] [] (Eq2 (iv (n.natAbs:Int)) []):=by
 have hLB:=LB_eq
 refine C_goS (nt:=7) (rs:=[.tmp 2]) hm Tryz.func108 rfl rfl rfl rfl rfl (fun hl he=>?_)
 simp -implicitDefEqProofs only [go_sem] at hl ⊢
 repeat (with_reducible apply And.intro; case left=>omega)
 refine atMax n (-n) (n.natAbs:Int) maxI_abs (by simp -implicitDefEqProofs only [go_sem]) (by simp -implicitDefEqProofs only [go_sem]) ?_
 simp -implicitDefEqProofs only [go_sem]
 refine fin1' ?_
 simp -implicitDefEqProofs only [go_sem]
theorem c_impl_isMark (l:Int) (many:Nat) (hm1:many ≤ 60):C E.P 105 [iv l,iv many] [] (Eq2 (bv (isMark l many)) []):=by
 have hLB:=LB_eq
 refine C_goS (nt:=14) (rs:=[.tmp 4]) hm Tryz.func105 rfl rfl rfl rfl rfl (fun hl he=>?_)
 simp -implicitDefEqProofs only [go_sem] at hl ⊢
 rcases Classical.em (l = 0) with h | h
 ·have k:=eq_true h
  simp -implicitDefEqProofs only [go_sem,k]
  refine fin1' ?_
  simp -implicitDefEqProofs only [go_sem]
  all_goals (simp [isMark,h]; done)
 ·simp -implicitDefEqProofs only [go_sem,h]
  repeat (with_reducible apply And.intro; case left=>omega)
  refine atCall [] (c_impl_within l (-(many:Int)) many) ?_ ?_ <;> simp -implicitDefEqProofs only [go_sem]
  refine fin1' ?_
  simp -implicitDefEqProofs only [go_sem]
  all_goals (simp [isMark,h]; done)
theorem c_Index_int (ns:List Int) (n:Int):C E.P 168 [lv (rowsI ns),iv n] [] (Eq2 (iv (idxOf (fun x=>decide (n = x)) ns)) []):=by
 have hLB:=LB_eq
 refine C_goS (nt:=19) (rs:=[.tmp 4]) hm Tryz.func168 rfl rfl rfl rfl rfl (fun hl he=>?_)
 simp -implicitDefEqProofs only [go_sem] at hl ⊢
 refine loop_go1 hm (fun (i:Nat)=> i ≤ ns.length ∧ idxOf (fun x=>decide (n = x)) ns = idxGo (fun x=>decide (n = x)) (ns.drop i) i) (fun (i:Nat)=> ⟨mkS 19 .any [(0,lv (rowsI ns)),(1,iv n),(7,iv ns.length),(8,iv i)],[]⟩) (fun (i:Nat)=> ns.length - i) (0) ?_ (weakS [] ?_ ?_ rfl rfl) ?_
 rotate_left
 ·simp -implicitDefEqProofs only [go_sem]
 ·simp -implicitDefEqProofs only [go_sem]
 rotate_left
 ·simp [idxOf]
 ·rintro i ⟨hi,hg⟩
  rcases Classical.em (i < ns.length) with h1 | h1
  ·rw [List.drop_eq_getElem_cons h1,idxGo] at hg
   rcases Classical.em (n = ns[i]) with h2 | h2
   ·have k2:=eq_true h2
    simp only [← h2,decide_true,if_true] at hg
    simp -implicitDefEqProofs only [go_sem,h1,k2]
    refine fin1' ?_
    simp -implicitDefEqProofs only [go_sem]
    all_goals (simp [hg]; done)
   ·simp only [h2,decide_false,Bool.false_eq_true,if_false] at hg
    simp -implicitDefEqProofs only [go_sem,h1,h2]
    repeat (with_reducible apply And.intro; case left=>omega)
    refine ⟨i + 1,?_,?_,weakS [] ?_ ?_ rfl rfl⟩
    rotate_left
    ·show _ < _
     omega
    ·simp -implicitDefEqProofs only [go_sem]
    ·simp -implicitDefEqProofs only [go_sem]
    exact ⟨by omega,by rw [hg]; rfl⟩
  ·rw [List.drop_of_length_le (by omega),idxGo] at hg
   simp -implicitDefEqProofs only [go_sem,h1]
   refine fin1' ?_
   simp -implicitDefEqProofs only [go_sem]
   all_goals (simp [hg]; done)
theorem idxOf_contains (ns:List Int) (n:Int):decide (0 ≤ idxOf (fun x=>decide (n = x)) ns) = ns.contains n:=by
 have key:∀ {ns:List Int} {i:Int},0 ≤ i → decide (0 ≤ idxGo (fun x=>decide (n = x)) ns i) = ns.contains n:=by
  intro ns
  induction ns with
  | nil=>intro i hi; simp [idxGo]
  | cons a ns ih=>
    intro i hi
    simp only [idxGo,List.contains_cons]
    rcases Classical.em (n = a) with h | h
    ·simp [h,hi]
    ·have hb:(n == a) = false:=by simpa using h
     simp only [h,decide_false,Bool.false_eq_true,if_false,hb,Bool.false_or]
     exact ih (by omega)
 exact key (by omega)
theorem c_Contains_int (ns:List Int) (n:Int):C E.P 106 [lv (rowsI ns),iv n] [] (Eq2 (bv (ns.contains n)) []):=by
 have hLB:=LB_eq
 refine C_goS (nt:=9) (rs:=[.tmp 4]) hm Tryz.func106 rfl rfl rfl rfl rfl (fun hl he=>?_)
 simp -implicitDefEqProofs only [go_sem] at hl ⊢
 refine atCall [] (c_Index_int ns n) ?_ ?_ <;> simp -implicitDefEqProofs only [go_sem]
 refine fin1' ?_
 simp -implicitDefEqProofs only [go_sem]
 rw [← idxOf_contains]
theorem c_impl_isSelection (marks:List Int) (atoms:List Atom) (hm1:atoms.length ≤ 60):C E.P 67 [lv (rowsI marks),lv (rowsAtom atoms)] [] (Eq2 (bv (isSelection marks atoms.length)) []):=by
 have e:isSelection marks atoms.length = selGo [] marks atoms.length:=rfl
 have hLB:=LB_eq
 refine C_goS (nt:=35) (rs:=[.tmp 4]) hm Tryz.func67 rfl rfl rfl rfl rfl (fun hl he=>?_)
 simp -implicitDefEqProofs only [go_sem] at hl ⊢
 refine loop_go1 hm (fun (i:Nat)=> i ≤ marks.length ∧ selGo [] marks atoms.length = selGo (marks.take i) (marks.drop i) atoms.length) (fun (i:Nat)=> ⟨mkS 35 .any [(0,lv (rowsI marks)),(1,lv (rowsAtom atoms)),(7,lv (rowsI marks)),(8,iv marks.length),(9,iv i)],[]⟩) (fun (i:Nat)=> marks.length - i) (0) ?_ (weakS [] ?_ ?_ rfl rfl) ?_
 rotate_left
 ·simp -implicitDefEqProofs only [go_sem]
 ·simp -implicitDefEqProofs only [go_sem]
 rotate_left
 ·simp
 ·rintro i ⟨hi,hg⟩
  rcases Classical.em (i < marks.length) with h1 | h1
  ·rw [selGo_take h1] at hg
   simp -implicitDefEqProofs only [go_sem,h1]
   refine atCall [] (c_impl_isMark marks[i] atoms.length hm1) ?_ ?_ <;> simp -implicitDefEqProofs only [go_sem]
   cases h2:isMark marks[i] atoms.length
   ·rw [h2,Bool.false_and] at hg
    simp -implicitDefEqProofs only [go_sem]
    refine fin1' ?_
    simp -implicitDefEqProofs only [go_sem]
    all_goals (simp [e,hg]; done)
   ·have hb:=h2
    simp only [isMark,Bool.and_eq_true,withinB_iff] at hb
    rw [h2,Bool.true_and] at hg
    simp -implicitDefEqProofs only [go_sem]
    refine And.intro ⟨by omega,rowsI_all _⟩ ?_
    simp -implicitDefEqProofs only [go_sem,Nat.sub_zero,List.drop_zero,rowsI_take]
    refine atCall [] (c_Contains_int (marks.take i) marks[i]) ?_ ?_ <;> simp -implicitDefEqProofs only [go_sem]
    cases h3:(marks.take i).contains marks[i]
    ·rw [h3] at hg
     simp only [Bool.not_false,Bool.true_and] at hg
     simp -implicitDefEqProofs only [go_sem]
     refine And.intro ⟨by omega,rowsI_all _⟩ ?_
     simp -implicitDefEqProofs only [go_sem,Nat.sub_zero,List.drop_zero,rowsI_take]
     repeat (with_reducible apply And.intro; case left=>omega)
     refine atCall [] (c_Contains_int (marks.take i) (-marks[i])) ?_ ?_ <;> simp -implicitDefEqProofs only [go_sem]
     cases h4:(marks.take i).contains (-marks[i])
     ·rw [h4] at hg
      simp only [Bool.not_false,Bool.true_and] at hg
      simp -implicitDefEqProofs only [go_sem]
      repeat (with_reducible apply And.intro; case left=>omega)
      refine ⟨i + 1,?_,?_,weakS [] ?_ ?_ rfl rfl⟩
      rotate_left
      ·show _ < _
       omega
      ·simp -implicitDefEqProofs only [go_sem]
      ·simp -implicitDefEqProofs only [go_sem]
      exact ⟨by omega,hg⟩
     ·rw [h4] at hg
      simp only [Bool.not_true,Bool.false_and] at hg
      simp -implicitDefEqProofs only [go_sem]
      refine fin1' ?_
      simp -implicitDefEqProofs only [go_sem]
      all_goals (simp [e,hg]; done)
    ·rw [h3] at hg
     simp only [Bool.not_true,Bool.false_and] at hg
     simp -implicitDefEqProofs only [go_sem]
     refine fin1' ?_
     simp -implicitDefEqProofs only [go_sem]
     all_goals (simp [e,hg]; done)
  ·rw [selGo_end (by omega)] at hg
   simp -implicitDefEqProofs only [go_sem,h1]
   refine fin1' ?_
   simp -implicitDefEqProofs only [go_sem]
   all_goals (simp [e,hg]; done)
theorem c_impl_standFor (marks:List Int) (atoms:List Atom) (hlen:atoms.length ≤ 60) (hin:∀ m ∈ marks,m ≠ 0 ∧ -(atoms.length:Int) ≤ m ∧ m ≤ atoms.length) (hl9:marks.length ≤ 900000):C E.P 69 [lv (rowsI marks),lv (rowsAtom atoms)] [] (Eq2 (lv (rowsLit (standFor marks atoms))) []):=by
 have hLB:=LB_eq
 refine C_goS (nt:=28) (rs:=[.tmp 4]) hm Tryz.func69 rfl rfl rfl rfl rfl (fun hl he=>?_)
 simp -implicitDefEqProofs only [go_sem] at hl ⊢
 refine loop_go1 hm (fun (i:Nat)=> i ≤ marks.length) (fun (i:Nat)=> ⟨mkS 28 .any [(1,lv (rowsAtom atoms)),(5,.acc 0),(8,lv (rowsI marks)),(9,iv marks.length),(10,iv i)],[some (.acc 66 (rowsLit (standFor (marks.take i) atoms)))]⟩) (fun (i:Nat)=> marks.length - i) (0) ?_ (weakS [none] ?_ ?_ rfl rfl) ?_
 rotate_left
 ·simp -implicitDefEqProofs only [go_sem]
 ·simp -implicitDefEqProofs only [go_sem]
  all_goals (simp [standFor,rowsLit])
 rotate_left
 ·omega
 ·rintro i hi
  have hv:(standFor (marks.take i) atoms).length = i:=by simp only [standFor,List.length_map,List.length_take]; omega
  rcases Classical.em (i < marks.length) with h1 | h1
  ·obtain ⟨q1,q2,q3⟩:=hin marks[i] (List.getElem_mem h1)
   have q5:((marks[i].natAbs:Int) - 1) = ((marks[i].natAbs - 1:Nat):Int):=by omega
   have q6:marks[i].natAbs - 1 < atoms.length:=by omega
   have q7:atoms.getD (marks[i].natAbs - 1) atom0 = atoms[marks[i].natAbs - 1]:=by simp [List.getD,q6]
   simp -implicitDefEqProofs only [go_sem,h1]
   refine atCall [] (c_impl_variable marks[i] (by omega)) ?_ ?_ <;> simp -implicitDefEqProofs only [go_sem]
   simp -implicitDefEqProofs only [go_sem,q5,q6]
   repeat (with_reducible apply And.intro; case left=>omega)
   refine ⟨i + 1,?_,?_,weakS [some 1] ?_ ?_ rfl rfl⟩
   rotate_left
   ·show _ < _
    omega
   ·simp -implicitDefEqProofs only [go_sem]
   ·simp -implicitDefEqProofs only [go_sem]
    all_goals ((rw [standFor_snoc h1,q7,← rowsLit_app]; rfl))
   exact h1
  ·have et:marks.take i = marks:=List.take_of_length_le (by omega)
   simp -implicitDefEqProofs only [go_sem,h1,et]
   refine fin1' ?_
   simp -implicitDefEqProofs only [go_sem]
theorem formsOk_someI {s:Sig} {list:List Mod.Form} (h:formsOk s list = true):(withAtomss [] list).length ≤ 6 ∧ formsAtoms list = some (withAtomss [] list):=by
 have e:=formsAtoms_eq list
 unfold formsOk at h
 rcases Classical.em (list.length ≤ 5 ∧ list.all isForm = true ∧ (withAtomss [] list).length ≤ 6) with hc | hc
 ·rw [if_pos hc] at e
  exact ⟨hc.2.2,e⟩
 ·rw [if_neg hc] at e
  rw [e] at h
  cases h
theorem c_impl_LemmaOk (s:Sig) (list:List Mod.Form) (l:Mod.Lemma):C E.P 33 [av (cSig s),lv (rowsForm list),av (cLemma l)] [] (Eq2 (bv (lemmaOk s list l)) []):=by
 have hLB:=LB_eq
 refine C_goS (nt:=39) (rs:=[.tmp 6]) hm Tryz.func33 rfl rfl rfl rfl rfl (fun hl he=>?_)
 simp -implicitDefEqProofs only [go_sem] at hl ⊢
 refine atCall [] (c_impl_formsAtoms list) ?_ ?_ <;> simp -implicitDefEqProofs only [go_sem]
 refine atCall [] (c_impl_FormsOk s list) ?_ ?_ <;> simp -implicitDefEqProofs only [go_sem]
 cases h1:formsOk s list
 ·simp -implicitDefEqProofs only [go_sem]
  with_reducible refine ind_andM (by kernel_rfl) ?_
  refine fin1' ?_
  simp -implicitDefEqProofs only [go_sem]
  all_goals (simp [lemmaOk,h1]; done)
 ·obtain ⟨f3,f4⟩:=formsOk_someI h1
  have e:lemmaOk s list l = (decide (0 < l.marks.length) && (isSelection l.marks (withAtomss [] list).length && caseOk s (standFor l.marks (withAtomss [] list)) l.case)):=by
   unfold lemmaOk; rw [h1,f4]; rfl
  rcases Classical.em ((0:Int) < (l.marks.length:Int)) with h2 | h2
  ·have h2':0 < l.marks.length:=by omega
   simp -implicitDefEqProofs only [go_sem,h2,f4,Option.getD_some,Option.isSome_some]
   refine atCall [] (c_impl_isSelection l.marks (withAtomss [] list) (by omega)) ?_ ?_ <;> simp -implicitDefEqProofs only [go_sem]
   cases h3:isSelection l.marks (withAtomss [] list).length
   ·simp -implicitDefEqProofs only [go_sem]
    with_reducible refine ind_andM (by kernel_rfl) ?_
    refine fin1' ?_
    simp -implicitDefEqProofs only [go_sem]
    all_goals (simp [e,h3]; done)
   ·simp -implicitDefEqProofs only [go_sem]
    refine atCall [] (c_impl_standFor l.marks (withAtomss [] list) (by omega) (isSelection_mem h3) (sel_len h3 (by omega))) ?_ ?_ <;> simp -implicitDefEqProofs only [go_sem]
    refine atCall [] (c_impl_CaseOk s (standFor l.marks (withAtomss [] list)) l.case) ?_ ?_ <;> simp -implicitDefEqProofs only [go_sem]
    with_reducible refine ind_andM (by kernel_rfl) ?_
    refine fin1' ?_
    simp -implicitDefEqProofs only [go_sem]
    all_goals (simp [e,h3,h2']; done)
  ·have h2':¬ 0 < l.marks.length:=by omega
   simp -implicitDefEqProofs only [go_sem,h2]
   with_reducible refine ind_andM (by kernel_rfl) ?_
   refine fin1' ?_
   simp -implicitDefEqProofs only [go_sem]
   all_goals (simp [e,h2']; done)
end Go.Proofs.YtlddcknkojieeaaGreat
