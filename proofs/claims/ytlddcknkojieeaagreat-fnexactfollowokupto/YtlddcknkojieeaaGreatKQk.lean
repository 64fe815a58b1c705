/-
  The reference: the walks of lemmas. A step towards the exact laws. The reference: the walks of clauses and of unit propagation. A step towards the exact laws. The reference: the walks of clause form, logs and papers. A step towards the exact laws.
-/
import Derived.Test.YtlddcknkojieeaaGreatKQj
import Derived.Test.YtlddcknkojieeaaGreatKQV
import Derived.Test.YtlddcknkojieeaaGreatKQE
import Derived.Test.YtlddcknkojieeaaGreatKQEa
set_option linter.unusedVariables false
set_option linter.unusedSimpArgs false
namespace Go.Proofs.YtlddcknkojieeaaGreat
open Go.Eng Go.Mod
open Int renaming reduceEq → Z1,reduceLT → Z2,reduceLE → Z3,reduceToNat → Z4
set_option maxRecDepth 100000
set_option maxHeartbeats 400000
def abs60 (n:Int):Int:=if n < -60 then 61 else if 60 < n then 61 else if n < 0 then -n else n
theorem abs60_le {n:Int} {many:Nat} (h:many ≤ 60):abs60 n ≤ many ↔ -(many:Int) ≤ n ∧ n ≤ many:=by
 unfold abs60; split
 ·omega
 ·split
  ·omega
  ·split <;> omega
theorem abs60_nat {n:Int} (h:-60 ≤ n ∧ n ≤ 60):abs60 n = (n.natAbs:Int):=by
 unfold abs60
 rw [if_neg (by omega),if_neg (by omega)]
 split <;> omega
theorem c_spec_l10Abs (n:Int):C E.P 88 [iv n] [] (Eq2 (iv (abs60 n)) []):=by
 have hLB:=LB_eq
 refine C_goS (nt:=14) (rs:=[.tmp 2]) hm Tryz.func88 rfl rfl rfl rfl rfl (fun hl he=>?_)
 simp -implicitDefEqProofs only [go_sem] at hl ⊢
 rcases Classical.em (n < -60) with h1 | h1
 ·simp -implicitDefEqProofs only [go_sem,h1]
  refine fin1' ?_
  simp -implicitDefEqProofs only [go_sem]
  all_goals (simp [abs60,h1]; done)
 ·rcases Classical.em (60 < n) with h2 | h2
  ·simp -implicitDefEqProofs only [go_sem,h1,h2]
   refine fin1' ?_
   simp -implicitDefEqProofs only [go_sem]
   all_goals (simp [abs60,h1,h2]; done)
  ·rcases Classical.em (n < 0) with h3 | h3
   ·simp -implicitDefEqProofs only [go_sem,h1,h2,h3]
    repeat (with_reducible apply And.intro; case left=>omega)
    refine fin1' ?_
    simp -implicitDefEqProofs only [go_sem]
    all_goals (simp [abs60,h1,h2,h3]; done)
   ·simp -implicitDefEqProofs only [go_sem,h1,h2,h3]
    refine fin1' ?_
    simp -implicitDefEqProofs only [go_sem]
    all_goals (simp [abs60,h1,h2,h3]; done)
theorem c_spec_l10At (l:List Int) (n:Int) (hn:-60 ≤ n ∧ n ≤ 60):C E.P 89 [lv (rowsI l),iv n] [] (Eq2 (iv (at0 l n)) []):=by
 have hLB:=LB_eq
 refine C_goS (nt:=25) (rs:=[.tmp 4]) hm Tryz.func89 rfl rfl rfl rfl rfl (fun hl he=>?_)
 simp -implicitDefEqProofs only [go_sem] at hl ⊢
 refine loop_go1 hm (fun (i:Nat)=> i ≤ l.length ∧ at0 l n = at0 (l.drop i) n) (fun (i:Nat)=> ⟨mkS 25 .any [(0,lv (rowsI l)),(1,iv n),(5,iv i)],[]⟩) (fun (i:Nat)=> l.length - i) (0) ?_ (weakS [] ?_ ?_ rfl rfl) ?_
 rotate_left
 ·simp -implicitDefEqProofs only [go_sem]
 ·simp -implicitDefEqProofs only [go_sem]
 rotate_left
 ·simp
 ·rintro i ⟨hi,hg⟩
  rcases Classical.em (i < l.length) with h1 | h1
  ·rw [List.drop_eq_getElem_cons h1,at0] at hg
   rcases Classical.em (l[i] = n) with h2 | h2
   ·rw [if_pos h2] at hg
    have k2:=eq_true h2
    simp -implicitDefEqProofs only [go_sem,h1,k2]
    refine fin1' ?_
    simp -implicitDefEqProofs only [go_sem]
    all_goals (simp [hg]; done)
   ·rw [if_neg h2] at hg
    rcases Classical.em (l[i] = -n) with h3 | h3
    ·rw [if_pos h3] at hg
     have k3:=eq_true h3
     simp -implicitDefEqProofs only [go_sem,h1,h2]
     repeat (with_reducible apply And.intro; case left=>omega)
     simp -implicitDefEqProofs only [go_sem,k3]
     refine fin1' ?_
     simp -implicitDefEqProofs only [go_sem]
     all_goals (simp [hg]; done)
    ·rw [if_neg h3] at hg
     simp -implicitDefEqProofs only [go_sem,h1,h2]
     repeat (with_reducible apply And.intro; case left=>omega)
     simp -implicitDefEqProofs only [go_sem,h3]
     repeat (with_reducible apply And.intro; case left=>omega)
     refine ⟨i + 1,?_,?_,weakS [] ?_ ?_ rfl rfl⟩
     rotate_left
     ·show _ < _
      omega
     ·simp -implicitDefEqProofs only [go_sem]
     ·simp -implicitDefEqProofs only [go_sem]
     exact ⟨by omega,hg⟩
  ·rw [List.drop_of_length_le (by omega),at0] at hg
   simp -implicitDefEqProofs only [go_sem,h1]
   refine fin1' ?_
   simp -implicitDefEqProofs only [go_sem]
   all_goals (simp [hg]; done)
theorem c_spec_l10Right (marks:List Int) (many:Nat) (hm1:many ≤ 60):C E.P 53 [lv (rowsI marks),iv many] [] (Eq2 (bv (isSelection marks many)) []):=by
 have e:isSelection marks many = selGo [] marks many:=rfl
 have hLB:=LB_eq
 refine C_goS (nt:=37) (rs:=[.tmp 4]) hm Tryz.func53 rfl rfl rfl rfl rfl (fun hl he=>?_)
 simp -implicitDefEqProofs only [go_sem] at hl ⊢
 refine loop_go1 hm (fun (i:Nat)=> i ≤ marks.length ∧ selGo [] marks many = selGo (marks.take i) (marks.drop i) many) (fun (i:Nat)=> ⟨mkS 37 .any [(0,lv (rowsI marks)),(1,iv many),(5,iv i)],[]⟩) (fun (i:Nat)=> marks.length - i) (0) ?_ (weakS [] ?_ ?_ rfl rfl) ?_
 rotate_left
 ·simp -implicitDefEqProofs only [go_sem]
 ·simp -implicitDefEqProofs only [go_sem]
 rotate_left
 ·simp
 ·rintro i ⟨hi,hg⟩
  rcases Classical.em (i < marks.length) with h1 | h1
  ·rw [selGo_take h1] at hg
   rcases Classical.em (marks[i] = 0) with h2 | h2
   ·have k2:=eq_true h2
    have e2:isMark marks[i] many = false:=by simp [isMark,h2]
    rw [e2,Bool.false_and] at hg
    simp -implicitDefEqProofs only [go_sem,h1,k2]
    with_reducible refine ind_andM (by kernel_rfl) ?_
    refine fin1' ?_
    simp -implicitDefEqProofs only [go_sem]
    all_goals (simp [e,hg]; done)
   ·simp -implicitDefEqProofs only [go_sem,h1,h2]
    refine atCall [] (c_spec_l10Abs marks[i]) ?_ ?_ <;> simp -implicitDefEqProofs only [go_sem]
    rcases Classical.em ((many:Int) < abs60 marks[i]) with h3 | h3
    ·have e2:isMark marks[i] many = false:=by
      cases hh:isMark marks[i] many
      ·rfl
      ·simp only [isMark,Bool.and_eq_true,withinB_iff] at hh
       have:=(abs60_le hm1).2 hh.2
       omega
     rw [e2,Bool.false_and] at hg
     simp -implicitDefEqProofs only [go_sem,h3]
     with_reducible refine ind_andM (by kernel_rfl) ?_
     refine fin1' ?_
     simp -implicitDefEqProofs only [go_sem]
     all_goals (simp [e,hg]; done)
    ·have hb:=(abs60_le (n:=marks[i]) hm1).1 (by omega)
     have e2:isMark marks[i] many = true:=by
      simp only [isMark,Bool.and_eq_true,decide_eq_true_eq,withinB_iff]
      exact ⟨h2,hb⟩
     rw [e2,Bool.true_and] at hg
     have hz:=at0_zero (l:=marks.take i) (n:=marks[i])
     simp -implicitDefEqProofs only [go_sem,h3,h1]
     refine And.intro ⟨by omega,rowsI_all _⟩ ?_
     simp -implicitDefEqProofs only [go_sem,Nat.sub_zero,List.drop_zero,rowsI_take]
     refine atCall [] (c_spec_l10At (marks.take i) marks[i] (by omega)) ?_ ?_ <;> simp -implicitDefEqProofs only [go_sem]
     with_reducible refine ind_andM (by kernel_rfl) ?_
     rcases Classical.em (at0 (marks.take i) marks[i] = 0) with h4 | h4
     ·have k4:=eq_true h4
      obtain ⟨z1,z2⟩:=hz.1 h4
      rw [z1,z2] at hg
      simp only [Bool.not_false,Bool.true_and] at hg
      simp -implicitDefEqProofs only [go_sem,k4]
      repeat (with_reducible apply And.intro; case left=>omega)
      refine ⟨i + 1,?_,?_,weakS [] ?_ ?_ rfl rfl⟩
      rotate_left
      ·show _ < _
       omega
      ·simp -implicitDefEqProofs only [go_sem]
      ·simp -implicitDefEqProofs only [go_sem]
      exact ⟨by omega,hg⟩
     ·have e3:isSelection marks many = false:=by
       rw [e,hg]
       cases z1:(marks.take i).contains marks[i]
       ·cases z2:(marks.take i).contains (-marks[i])
        ·exact absurd (hz.2 ⟨z1,z2⟩) h4
        ·simp
       ·simp
      simp -implicitDefEqProofs only [go_sem,h4]
      refine fin1' ?_
      simp -implicitDefEqProofs only [go_sem]
      all_goals (simp [e3]; done)
  ·rw [selGo_end (by omega)] at hg
   simp -implicitDefEqProofs only [go_sem,h1]
   refine fin1' ?_
   simp -implicitDefEqProofs only [go_sem]
   all_goals (simp [e,hg]; done)
theorem c_spec_l12Lits (atoms:List Atom) (marks:List Int) (hlen:atoms.length ≤ 60) (hin:∀ m ∈ marks,m ≠ 0 ∧ -(atoms.length:Int) ≤ m ∧ m ≤ atoms.length) (hl9:marks.length ≤ 900000):C E.P 55 [lv (rowsAtom atoms),lv (rowsI marks)] [] (Eq2 (lv (rowsLit (standFor marks atoms))) []):=by
 have hLB:=LB_eq
 refine C_goS (nt:=33) (rs:=[.tmp 4]) hm Tryz.func55 rfl rfl rfl rfl rfl (fun hl he=>?_)
 simp -implicitDefEqProofs only [go_sem] at hl ⊢
 refine loop_go1 hm (fun (i:Nat)=> i ≤ marks.length) (fun (i:Nat)=> ⟨mkS 33 .any [(0,lv (rowsAtom atoms)),(1,lv (rowsI marks)),(5,.acc 0),(6,iv i)],[some (.acc 66 (rowsLit (standFor (marks.take i) atoms)))]⟩) (fun (i:Nat)=> marks.length - i) (0) ?_ (weakS [some 0] ?_ ?_ rfl rfl) ?_
 rotate_left
 ·simp -implicitDefEqProofs only [go_sem]
 ·simp -implicitDefEqProofs only [go_sem]
  all_goals (simp [standFor,rowsLit])
 rotate_left
 ·omega
 ·rintro i hi
  have hv:(standFor (marks.take i) atoms).length = i:=by simp only [standFor,List.length_map,List.length_take]; omega
  rcases Classical.em (i < marks.length) with h1 | h1
  ·obtain ⟨q1,q2,q3⟩:=hin marks[i] (List.getElem_mem h1)
   have q4:=abs60_nat (n:=marks[i]) (by omega)
   have q5:((marks[i].natAbs:Int) - 1) = ((marks[i].natAbs - 1:Nat):Int):=by omega
   have q6:marks[i].natAbs - 1 < atoms.length:=by omega
   have q7:atoms.getD (marks[i].natAbs - 1) atom0 = atoms[marks[i].natAbs - 1]:=by simp [List.getD,q6]
   have hc:=c_spec_l10Abs marks[i]
   rw [q4] at hc
   simp -implicitDefEqProofs only [go_sem,h1]
   refine atCall [] hc ?_ ?_ <;> simp -implicitDefEqProofs only [go_sem]
   simp -implicitDefEqProofs only [go_sem,q5,q6,h1]
   repeat (first | with_reducible refine ind_andM (by kernel_rfl) ?_ | (with_reducible apply And.intro; case left=>omega))
   refine ⟨i + 1,?_,?_,weakS [some 1] ?_ ?_ rfl rfl⟩
   rotate_left
   ·show _ < _
    omega
   ·simp -implicitDefEqProofs only [go_sem]
   ·simp -implicitDefEqProofs only [go_sem]
    all_goals ((rw [standFor_snoc h1,q7,← rowsLit_app]; rfl))
   exact h1
  ·have et:marks.take i = marks:=List.take_of_length_le (by omega)
   simp -implicitDefEqProofs only [go_sem,h1,et]
   refine fin1' ?_
   simp -implicitDefEqProofs only [go_sem]
theorem formsOk_some {s:Sig} {list:List Mod.Form} (h:formsOk s list = true):list.length ≤ 5 ∧ (∀ f ∈ list,isForm f = true) ∧ (withAtomss [] list).length ≤ 6 ∧ formsAtoms list = some (withAtomss [] list):=by
 have e:=formsAtoms_eq list
 unfold formsOk at h
 rcases Classical.em (list.length ≤ 5 ∧ list.all isForm = true ∧ (withAtomss [] list).length ≤ 6) with hc | hc
 ·rw [if_pos hc] at e
  exact ⟨hc.1,List.all_eq_true.1 hc.2.1,hc.2.2,e⟩
 ·rw [if_neg hc] at e
  rw [e] at h
  cases h
theorem c_spec_LemmaOk (s:Sig) (list:List Mod.Form) (l:Mod.Lemma):C E.P 25 [av (cSig s),lv (rowsForm list),av (cLemma l)] [] (Eq2 (bv (lemmaOk s list l)) []):=by
 have hLB:=LB_eq
 refine C_goS (nt:=35) (rs:=[.tmp 6]) hm Tryz.func25 rfl rfl rfl rfl rfl (fun hl he=>?_)
 simp -implicitDefEqProofs only [go_sem] at hl ⊢
 refine atCall [] (c_spec_FormsOk s list) ?_ ?_ <;> simp -implicitDefEqProofs only [go_sem]
 cases h1:formsOk s list
 ·simp -implicitDefEqProofs only [go_sem]
  refine fin1' ?_
  simp -implicitDefEqProofs only [go_sem]
  all_goals (simp [lemmaOk,h1]; done)
 ·obtain ⟨f1,f2,f3,f4⟩:=formsOk_some h1
  have e:lemmaOk s list l = (decide (0 < l.marks.length) && (isSelection l.marks (withAtomss [] list).length && caseOk s (standFor l.marks (withAtomss [] list)) l.case)):=by
   unfold lemmaOk; rw [h1,f4]; rfl
  simp -implicitDefEqProofs only [go_sem]
  refine atCall [] (c_spec_l10Told list f2 f1) ?_ ?_ <;> simp -implicitDefEqProofs only [go_sem]
  rcases Classical.em ((0:Int) < (l.marks.length:Int)) with h2 | h2
  ·have h2':0 < l.marks.length:=by omega
   simp -implicitDefEqProofs only [go_sem,h2]
   refine atCall [] (c_spec_l10Right l.marks (withAtomss [] list).length (by omega)) ?_ ?_ <;> simp -implicitDefEqProofs only [go_sem]
   cases h3:isSelection l.marks (withAtomss [] list).length
   ·simp -implicitDefEqProofs only [go_sem]
    with_reducible refine ind_andM (by kernel_rfl) ?_
    refine fin1' ?_
    simp -implicitDefEqProofs only [go_sem]
    all_goals (simp [e,h3]; done)
   ·simp -implicitDefEqProofs only [go_sem]
    refine atCall [] (c_spec_l12Lits (withAtomss [] list) l.marks (by omega) (isSelection_mem h3) (sel_len h3 (by omega))) ?_ ?_ <;> simp -implicitDefEqProofs only [go_sem]
    refine atCall [] (c_spec_CaseOk s (standFor l.marks (withAtomss [] list)) l.case) ?_ ?_ <;> simp -implicitDefEqProofs only [go_sem]
    with_reducible refine ind_andM (by kernel_rfl) ?_
    refine fin1' ?_
    simp -implicitDefEqProofs only [go_sem]
    all_goals (simp [e,h3,h2']; done)
  ·have h2':¬ 0 < l.marks.length:=by omega
   simp -implicitDefEqProofs only [go_sem,h2]
   with_reducible refine ind_andM (by kernel_rfl) ?_
   refine fin1' ?_
   simp -implicitDefEqProofs only [go_sem]
   all_goals (simp [e,h2']; done)
end Go.Proofs.YtlddcknkojieeaaGreat
namespace Go.Proofs.YtlddcknkojieeaaGreat
open Go.Eng Go.Mod
open Int renaming reduceEq → Z1,reduceLT → Z2,reduceLE → Z3,reduceToNat → Z4
set_option maxRecDepth 100000
set_option maxHeartbeats 400000
def clauseS (many:Int):Int → List Int → Bool
 | _,[]=>true
 | last,l :: ls=>!decide (abs60 l ≤ last) && (!decide (many < abs60 l) && clauseS many (abs60 l) ls)
def prevA:Option Int → Int
 | none=>0
 | some q=>q.natAbs
theorem clauseS_go {many:Int} (h:0 ≤ many ∧ many ≤ 60):∀ (c:List Int) (p:Option Int),(∀ q,p = some q → q.natAbs ≤ 60) → clauseGo many p c = clauseS many (prevA p) c
 | [],_,_=>by simp [clauseGo,clauseS]
 | l :: ls,p,hp=>by
   simp only [clauseGo,clauseS]
   rcases Classical.em (isMark l many = true) with h1 | h1
   ·have hb:=isMark_iff.1 h1
    have ha:=abs60_nat (n:=l) (by omega)
    rw [h1,Bool.true_and,clauseS_go h ls (some l) (fun q hq=>by cases hq; omega),ha]
    have h2:¬ many < (l.natAbs:Int):=by omega
    simp only [h2,decide_false,Bool.not_false,Bool.true_and]
    cases p with
    | none=>
      have h3:¬ ((l.natAbs:Int) ≤ 0):=by omega
      simp only [prevA,h3,decide_false,Bool.not_false,Bool.true_and]
    | some q=>
      simp only [prevA]
      congr 1
      rcases Nat.lt_or_ge q.natAbs l.natAbs with h3 | h3
      ·have h4:¬ ((l.natAbs:Int) ≤ (q.natAbs:Int)):=by omega
       simp [h3,h4]
      ·have h4:¬ q.natAbs < l.natAbs:=by omega
       have h5:(l.natAbs:Int) ≤ (q.natAbs:Int):=by omega
       simp [h4,h5]
   ·have e:isMark l many = false:=by simpa using h1
    rw [e,Bool.false_and]
    symm
    rcases Classical.em (abs60 l ≤ (prevA p)) with h2 | h2
    ·simp [h2]
    ·rcases Classical.em (many < abs60 l) with h3 | h3
     ·simp [h3]
     ·exfalso
      apply h1
      rw [isMark_iff]
      have h4:abs60 l ≤ 60:=by omega
      have h5:=(abs60_le (n:=l) (many:=60) (by omega)).1 h4
      have h6:=abs60_nat (n:=l) (by omega)
      refine ⟨fun hz=>?_,by omega,by omega⟩
      rw [hz] at h6 h2
      have h7:abs60 0 = 0:=by decide
      rw [h7] at h2
      cases p with
      | none=>exact h2 (Int.le_refl 0)
      | some q=>exact h2 (by simp only [prevA]; omega)
theorem clauseOk_S (c:List Int) (many:Int):clauseOk c many = (within many 0 60 && clauseS many 0 c):=by
 unfold clauseOk
 cases h:within many 0 60
 ·rfl
 ·rw [clauseS_go (withinB_iff.1 h) c none (by simp),prevA]
theorem c_spec_ClauseOk (c:List Int) (many:Int):C E.P 93 [lv (rowsI c),iv many] [] (Eq2 (bv (clauseOk c many)) []):=by
 have e:=clauseOk_S c many
 have hLB:=LB_eq
 refine C_goS (nt:=40) (rs:=[.tmp 4]) hm Tryz.func93 rfl rfl rfl rfl rfl (fun hl he=>?_)
 simp -implicitDefEqProofs only [go_sem] at hl ⊢
 refine loop_go2 hm (fun (i:Nat) (last:Int)=> i ≤ c.length ∧ clauseS many 0 c = clauseS many last (c.drop i)) (fun (i:Nat) (last:Int)=> ⟨mkS 40 .any [(0,lv (rowsI c)),(1,iv many),(5,iv last),(6,iv i)],[]⟩) (fun (i:Nat) (last:Int)=> c.length - i) (0) (0) ?_ (weakS [] ?_ ?_ rfl rfl) ?_
 rotate_left
 ·simp -implicitDefEqProofs only [go_sem]
 ·simp -implicitDefEqProofs only [go_sem]
 rotate_left
 ·simp
 ·rintro i last ⟨hi,hg⟩
  rcases Classical.em (i < c.length) with h1 | h1
  ·rw [List.drop_eq_getElem_cons h1,clauseS] at hg
   simp -implicitDefEqProofs only [go_sem,h1]
   refine atCall [] (c_spec_l10Abs c[i]) ?_ ?_ <;> simp -implicitDefEqProofs only [go_sem]
   rcases Classical.em (abs60 c[i] ≤ last) with h2 | h2
   ·simp only [h2,decide_true,Bool.not_true,Bool.false_and] at hg
    simp -implicitDefEqProofs only [go_sem,h2]
    refine fin1' ?_
    simp -implicitDefEqProofs only [go_sem]
    all_goals (simp [e,hg]; done)
   ·simp only [h2,decide_false,Bool.not_false,Bool.true_and] at hg
    simp -implicitDefEqProofs only [go_sem,h2,h1]
    refine atCall [] (c_spec_l10Abs c[i]) ?_ ?_ <;> simp -implicitDefEqProofs only [go_sem]
    rcases Classical.em (many < abs60 c[i]) with h3 | h3
    ·simp only [h3,decide_true,Bool.not_true,Bool.false_and] at hg
     simp -implicitDefEqProofs only [go_sem,h3]
     refine fin1' ?_
     simp -implicitDefEqProofs only [go_sem]
     all_goals (simp [e,hg]; done)
    ·simp only [h3,decide_false,Bool.not_false,Bool.true_and] at hg
     simp -implicitDefEqProofs only [go_sem,h3,h1]
     refine atCall [] (c_spec_l10Abs c[i]) ?_ ?_ <;> simp -implicitDefEqProofs only [go_sem]
     repeat (with_reducible apply And.intro; case left=>omega)
     refine ⟨i + 1,abs60 c[i],?_,?_,weakS [] ?_ ?_ rfl rfl⟩
     rotate_left
     ·show _ < _
      omega
     ·simp -implicitDefEqProofs only [go_sem]
     ·simp -implicitDefEqProofs only [go_sem]
     exact ⟨by omega,hg⟩
  ·rw [List.drop_of_length_le (by omega),clauseS] at hg
   rw [hg,Bool.and_true] at e
   rcases Classical.em ((0:Int) ≤ many) with h2 | h2
   ·simp -implicitDefEqProofs only [go_sem,h1,h2]
    refine fin1' ?_
    simp -implicitDefEqProofs only [go_sem]
    all_goals (simp [e,within,h2]; done)
   ·simp -implicitDefEqProofs only [go_sem,h1,h2]
    refine fin1' ?_
    simp -implicitDefEqProofs only [go_sem]
    all_goals (simp [e,within,h2]; done)
theorem c_spec_CnfOk (c:Mod.Cnf):C E.P 56 [av (cCnf c)] [] (Eq2 (bv (cnfOk c)) []):=by
 have hLB:=LB_eq
 refine C_goS (nt:=34) (rs:=[.tmp 2]) hm Tryz.func56 rfl rfl rfl rfl rfl (fun hl he=>?_)
 simp -implicitDefEqProofs only [go_sem] at hl ⊢
 rcases Classical.em (c.many < 0) with h1 | h1
 ·have e:within c.many 0 60 = false:=by simp [within]; omega
  simp -implicitDefEqProofs only [go_sem,h1]
  refine fin1' ?_
  simp -implicitDefEqProofs only [go_sem]
  all_goals (simp [cnfOk,e]; done)
 rcases Classical.em (60 < c.many) with h2 | h2
 ·have e:within c.many 0 60 = false:=by simp [within]; omega
  simp -implicitDefEqProofs only [go_sem,h1,h2]
  refine fin1' ?_
  simp -implicitDefEqProofs only [go_sem]
  all_goals (simp [cnfOk,e]; done)
 have e1:within c.many 0 60 = true:=withinB_iff.2 ⟨by omega,by omega⟩
 rcases Classical.em ((400:Int) < (c.list.length:Int)) with h3 | h3
 ·have h3':¬ c.list.length ≤ 400:=by omega
  simp -implicitDefEqProofs only [go_sem,h1,h2,h3]
  refine fin1' ?_
  simp -implicitDefEqProofs only [go_sem]
  all_goals (simp [cnfOk,h3']; done)
 have h3':c.list.length ≤ 400:=by omega
 have e:cnfOk c = c.list.all fun x=>clauseOk x c.many:=by simp [cnfOk,e1,h3']
 simp -implicitDefEqProofs only [go_sem,h1,h2,h3]
 refine loop_go1 hm (fun (i:Nat)=> i ≤ c.list.length ∧ (c.list.all fun x=>clauseOk x c.many) = ((c.list.drop i).all fun x=>clauseOk x c.many)) (fun (i:Nat)=> ⟨mkS 34 .any [(1,.ptr 0 0),(3,iv i)],[some (.box (pvs (cCnf c)))]⟩) (fun (i:Nat)=> c.list.length - i) (0) ?_ (weakS [some 0] ?_ ?_ rfl rfl) ?_
 rotate_left
 ·simp -implicitDefEqProofs only [go_sem]
 ·simp -implicitDefEqProofs only [go_sem]
 rotate_left
 ·simp
 ·rintro i ⟨hi,hg⟩
  rcases Classical.em (i < c.list.length) with h4 | h4
  ·rw [List.drop_eq_getElem_cons h4,List.all_cons] at hg
   simp -implicitDefEqProofs only [go_sem,h4]
   refine atCall [] (c_spec_ClauseOk c.list[i] c.many) ?_ ?_ <;> simp -implicitDefEqProofs only [go_sem]
   with_reducible refine ind_andM (by kernel_rfl) ?_
   cases h5:clauseOk c.list[i] c.many
   ·rw [h5,Bool.false_and] at hg
    simp -implicitDefEqProofs only [go_sem]
    refine fin1' ?_
    simp -implicitDefEqProofs only [go_sem]
    all_goals (simp [e,hg]; done)
   ·rw [h5,Bool.true_and] at hg
    simp -implicitDefEqProofs only [go_sem]
    repeat (with_reducible apply And.intro; case left=>omega)
    refine ⟨i + 1,?_,?_,weakS [some 0] ?_ ?_ rfl rfl⟩
    rotate_left
    ·show _ < _
     omega
    ·simp -implicitDefEqProofs only [go_sem]
    ·simp -implicitDefEqProofs only [go_sem]
    exact ⟨by omega,hg⟩
  ·rw [List.drop_of_length_le (by omega),List.all_nil] at hg
   simp -implicitDefEqProofs only [go_sem,h4]
   refine fin1' ?_
   simp -implicitDefEqProofs only [go_sem]
   all_goals (simp [e,hg]; done)
theorem c_spec_l10Left (put c:List Int) (hc9:∀ l ∈ c,l ≠ 0 ∧ l.natAbs ≤ 60) (hl9:c.length ≤ 1000):C E.P 145 [lv (rowsI put),lv (rowsI c)] [] (Eq2 (.tup [iv (Mod.left put c).1,iv (Mod.left put c).2]) []):=by
 have hLB:=LB_eq
 refine C_goS (nt:=35) (rs:=[.tmp 4,.tmp 5]) hm Tryz.func145 rfl rfl rfl rfl rfl (fun hl he=>?_)
 simp -implicitDefEqProofs only [go_sem] at hl ⊢
 refine loop_go3 hm (fun (i:Nat) (n:Int) (lf:Int)=> i ≤ c.length ∧ 0 ≤ n ∧ n ≤ i ∧ Mod.left put c = leftGo put (c.drop i) n lf) (fun (i:Nat) (n:Int) (lf:Int)=> ⟨mkS 35 .any [(0,lv (rowsI put)),(1,lv (rowsI c)),(6,iv n),(7,iv lf),(8,iv i)],[]⟩) (fun (i:Nat) (n:Int) (lf:Int)=> c.length - i) (0) (0) (0) ?_ (weakS [] ?_ ?_ rfl rfl) ?_
 rotate_left
 ·simp -implicitDefEqProofs only [go_sem]
 ·simp -implicitDefEqProofs only [go_sem]
 rotate_left
 ·simp [Mod.left]
 ·rintro i n lf ⟨hi,hn0,hn,hg⟩
  rcases Classical.em (i < c.length) with h1 | h1
  ·have hb:=hc9 c[i] (List.getElem_mem h1)
   rw [List.drop_eq_getElem_cons h1,leftGo] at hg
   simp -implicitDefEqProofs only [go_sem,h1]
   refine atCall [] (c_spec_l10At put c[i] (by omega)) ?_ ?_ <;> simp -implicitDefEqProofs only [go_sem]
   rcases Classical.em (at0 put c[i] = 1) with h2 | h2
   ·have k2:=eq_true h2
    rw [if_pos h2] at hg
    simp -implicitDefEqProofs only [go_sem,k2]
    refine fin1' ?_
    simp -implicitDefEqProofs only [go_sem]
    all_goals (simp [hg]; done)
   ·rw [if_neg h2] at hg
    rcases Classical.em (at0 put c[i] = 0) with h3 | h3
    ·have k3:=eq_true h3
     rw [if_pos h3] at hg
     rcases Classical.em (n = 0) with h4 | h4
     ·have k4:=eq_true h4
      rw [if_pos h4] at hg
      simp -implicitDefEqProofs only [go_sem,h2,k3,k4,h1]
      repeat (with_reducible apply And.intro; case left=>omega)
      refine ⟨i + 1,n + 1,c[i],?_,?_,weakS [] ?_ ?_ rfl rfl⟩
      rotate_left
      ·show _ < _
       omega
      ·simp -implicitDefEqProofs only [go_sem]
      ·simp -implicitDefEqProofs only [go_sem]
      exact ⟨by omega,by omega,by omega,hg⟩
     ·rw [if_neg h4] at hg
      simp -implicitDefEqProofs only [go_sem,h2,k3,h4]
      repeat (with_reducible apply And.intro; case left=>omega)
      refine ⟨i + 1,n + 1,lf,?_,?_,weakS [] ?_ ?_ rfl rfl⟩
      rotate_left
      ·show _ < _
       omega
      ·simp -implicitDefEqProofs only [go_sem]
      ·simp -implicitDefEqProofs only [go_sem]
      exact ⟨by omega,by omega,by omega,hg⟩
    ·rw [if_neg h3] at hg
     simp -implicitDefEqProofs only [go_sem,h2,h3]
     repeat (with_reducible apply And.intro; case left=>omega)
     refine ⟨i + 1,n,lf,?_,?_,weakS [] ?_ ?_ rfl rfl⟩
     rotate_left
     ·show _ < _
      omega
     ·simp -implicitDefEqProofs only [go_sem]
     ·simp -implicitDefEqProofs only [go_sem]
     exact ⟨by omega,by omega,by omega,hg⟩
  ·rw [List.drop_of_length_le (by omega),leftGo] at hg
   simp -implicitDefEqProofs only [go_sem,h1]
   refine fin1' ?_
   simp -implicitDefEqProofs only [go_sem]
   all_goals (simp [hg]; done)
theorem c_spec_l10Units (c:Mod.Cnf) (put:List Int) (hc9:∀ x ∈ c.list,(∀ l ∈ x,l ≠ 0 ∧ l.natAbs ≤ 60) ∧ x.length ≤ 1000) (hL9:c.list.length ≤ 1000) (hp9:PutOk put):C E.P 94 [av (cCnf c),lv (rowsI put)] [] (Eq2 (.tup [lv (rowsI (units c.list put).1),bv (units c.list put).2]) []):=by
 have hpl:=put_len hp9
 have hLB:=LB_eq
 refine C_goS (nt:=40) (rs:=[.tmp 4,.tmp 5]) hm Tryz.func94 rfl rfl rfl rfl rfl (fun hl he=>?_)
 simp -implicitDefEqProofs only [go_sem] at hl ⊢
 repeat (with_reducible apply And.intro; case left=>exact ⟨rowsI_all _,by omega⟩)
 refine loop_go2 hm (fun (i:Nat) (p:List Int)=> i ≤ c.list.length ∧ PutOk p ∧ units c.list put = units c.list p ∧ scan p c.list = scan p (c.list.drop i)) (fun (i:Nat) (p:List Int)=> ⟨mkS 40 .any [(2,.ptr 0 0),(6,.acc 1),(7,iv i)],[some (.box (pvs (cCnf c))),some (.acc 3 (rowsI p))]⟩) (fun (i:Nat) (p:List Int)=> 100000 * (61 - p.length) + (c.list.length - i)) (0) (put) ?_ (weakS [some 0,some 2] ?_ ?_ rfl rfl) ?_
 rotate_left
 ·simp -implicitDefEqProofs only [go_sem]
 ·simp -implicitDefEqProofs only [go_sem]
 rotate_left
 ·simp [hp9]
 ·rintro i p ⟨hi,hp,hu,hs⟩
  have hl:=put_len hp
  have hst:=units_step (list:=c.list) hl
  rcases Classical.em (i < c.list.length) with h1 | h1
  ·obtain ⟨b1,b2⟩:=hc9 c.list[i] (List.getElem_mem h1)
   have hlu:=left_unit (c:=c.list[i]) (put_fair hp) (fun l hl=>(b1 l hl).1)
   rw [scan_drop h1] at hs
   simp -implicitDefEqProofs only [go_sem,h1]
   refine atLook [] [1] (c_spec_l10Left p c.list[i] b1 b2) rfl ?_ ?_ ?_
   ·(simp -implicitDefEqProofs only [go_sem]; repeat' (first | exact Vws.nil | apply Vws.cons | exact Vw.same (by first | rfl | simp -implicitDefEqProofs only [go_sem,Z1,Z2,Z3,Z4]) | exact Vw.acc rfl rfl | exact Vw.nil | apply Vw.agg | apply Vw.fn | refine Vw.box rfl rfl ?_))
   all_goals simp -implicitDefEqProofs only [go_sem]
   rcases hlu with ⟨u1,u2⟩ | ⟨u1,u2,u3⟩ | ⟨u1,u2,u3⟩
   ·have k:=eq_true u2
    rw [u1] at hs
    simp only [if_true] at hs
    rw [hs] at hst
    simp only [if_true] at hst
    simp -implicitDefEqProofs only [go_sem,k]
    refine fin1' ?_
    simp -implicitDefEqProofs only [go_sem]
    rw [hu,hst]
    exact ⟨rfl,rfl⟩
   ·rw [if_neg (by rw [u1]; simp),if_neg u2] at hs
    have hsn:(scan p c.list).1 ≠ 0:=by rw [hs]; exact u2
    have hok:=scan_ok hp (fun x hx l hl=>(hc9 x hx).1 l hl) hsn
    have hl2:=put_len hok
    rw [hs] at hst hok hl2
    simp only [Bool.false_eq_true,if_false,u2] at hst
    simp only [List.length_append,List.length_singleton] at hl2
    have hlx:(p ++ [(unit p c.list[i]).1]).length = p.length + 1:=by simp
    have k1:(Mod.left p c.list[i]).1 = 1:=by rw [u3]
    have k2:(Mod.left p c.list[i]).2 = (unit p c.list[i]).1:=by rw [u3]
    simp -implicitDefEqProofs only [go_sem,Z1,k1,k2]
    repeat (with_reducible apply And.intro; case left=>omega)
    refine ⟨0,p ++ [(unit p c.list[i]).1],?_,?_,weakS [some 0,some 2] ?_ ?_ rfl rfl⟩
    rotate_left
    ·show _ < _
     omega
    ·simp -implicitDefEqProofs only [go_sem]
     all_goals (simp [*]; done)
    ·simp -implicitDefEqProofs only [go_sem]
     all_goals ((rw [← rowsI_app]; rfl))
    exact ⟨by omega,hok,by rw [hu,hst],by simp⟩
   ·have k0:¬ (Mod.left p c.list[i]).1 = 0:=by omega
    have k1:¬ (Mod.left p c.list[i]).1 = 1:=by omega
    rw [if_neg (by rw [u1]; simp),if_pos u2] at hs
    simp -implicitDefEqProofs only [go_sem,k0,k1]
    repeat (with_reducible apply And.intro; case left=>omega)
    refine ⟨i + 1,p,?_,?_,weakS [some 0,some 1] ?_ ?_ rfl rfl⟩
    rotate_left
    ·show _ < _
     omega
    ·simp -implicitDefEqProofs only [go_sem]
    ·simp -implicitDefEqProofs only [go_sem]
    exact ⟨by omega,hp,hu,hs⟩
  ·rw [scan_end (by omega)] at hs
   rw [hs] at hst
   simp only [Bool.false_eq_true,if_false,if_true] at hst
   simp -implicitDefEqProofs only [go_sem,h1]
   refine fin1' ?_
   simp -implicitDefEqProofs only [go_sem]
   rw [hu,hst]
   exact ⟨rfl,rfl⟩
theorem c_spec_l10Nots (l:List Int) (hl9:l.length ≤ 1000) (hb9:∀ x ∈ l,-1000000 ≤ x ∧ x ≤ 1000000):C E.P 95 [lv (rowsI l)] [] (Eq2 (lv (rowsI (l.map fun x=>-x))) []):=by
 have hLB:=LB_eq
 refine C_goS (nt:=21) (rs:=[.tmp 2]) hm Tryz.func95 rfl rfl rfl rfl rfl (fun hl he=>?_)
 simp -implicitDefEqProofs only [go_sem] at hl ⊢
 refine loop_go1 hm (fun (i:Nat)=> i ≤ l.length) (fun (i:Nat)=> ⟨mkS 21 .any [(0,lv (rowsI l)),(3,.acc 0),(4,iv i)],[some (.acc 3 (rowsI ((l.take i).map fun x=>-x)))]⟩) (fun (i:Nat)=> l.length - i) (0) ?_ (weakS [some 0] ?_ ?_ rfl rfl) ?_
 rotate_left
 ·simp -implicitDefEqProofs only [go_sem]
 ·simp -implicitDefEqProofs only [go_sem]
 rotate_left
 ·omega
 ·rintro i hi
  have hv:((l.take i).map fun x=>-x).length = i:=by rw [List.length_map,List.length_take]; omega
  rcases Classical.em (i < l.length) with h1 | h1
  ·have hb:=hb9 l[i] (List.getElem_mem h1)
   simp -implicitDefEqProofs only [go_sem,h1]
   repeat (with_reducible apply And.intro; case left=>omega)
   refine ⟨i + 1,?_,?_,weakS [some 1] ?_ ?_ rfl rfl⟩
   rotate_left
   ·show _ < _
    omega
   ·simp -implicitDefEqProofs only [go_sem]
   ·simp -implicitDefEqProofs only [go_sem]
    all_goals ((rw [take_snoc h1,List.map_append,← rowsI_app]; rfl))
   exact h1
  ·have et:l.take i = l:=List.take_of_length_le (by omega)
   simp -implicitDefEqProofs only [go_sem,h1,et]
   refine fin1' ?_
   simp -implicitDefEqProofs only [go_sem]
theorem c_spec_CnfRup (c:Mod.Cnf) (clause:List Int):C E.P 57 [av (cCnf c),lv (rowsI clause)] [] (Eq2 (bv (cnfRup c clause)) []):=by
 have hLB:=LB_eq
 refine C_goS (nt:=25) (rs:=[.tmp 4]) hm Tryz.func57 rfl rfl rfl rfl rfl (fun hl he=>?_)
 simp -implicitDefEqProofs only [go_sem] at hl ⊢
 refine atCall [] (c_spec_CnfOk c) ?_ ?_ <;> simp -implicitDefEqProofs only [go_sem]
 cases h1:cnfOk c
 ·simp -implicitDefEqProofs only [go_sem]
  refine fin1' ?_
  simp -implicitDefEqProofs only [go_sem]
  all_goals (simp [cnfRup,h1]; done)
 ·simp -implicitDefEqProofs only [go_sem]
  refine atCall [] (c_spec_ClauseOk clause c.many) ?_ ?_ <;> simp -implicitDefEqProofs only [go_sem]
  cases h2:clauseOk clause c.many
  ·simp -implicitDefEqProofs only [go_sem]
   refine fin1' ?_
   simp -implicitDefEqProofs only [go_sem]
   all_goals (simp [cnfRup,h1,h2]; done)
  ·have hm:=clauseOk_mem h2
   have hcm:=cnfOk_mem h1
   have hall:∀ x ∈ c.list,clauseOk x c.many = true:=by
    simp only [cnfOk,Bool.and_eq_true] at h1
    exact List.all_eq_true.1 h1.2.2
   have e:cnfRup c clause = (units c.list (clause.map fun l=>-l)).2:=by simp [cnfRup,h1,h2]
   have hil:=inc_len h2
   simp -implicitDefEqProofs only [go_sem]
   refine atCall [] (c_spec_l10Nots clause (by omega) (fun x hx=>by have:=hm.2.2 x hx; omega)) ?_ ?_ <;> simp -implicitDefEqProofs only [go_sem]
   refine atCall [] (c_spec_l10Units c (clause.map fun l=>-l) (fun x hx=>⟨hcm.2.2 x hx,by have:=inc_len (hall x hx); omega⟩) (by omega) (put_neg h2)) ?_ ?_ <;> simp -implicitDefEqProofs only [go_sem]
   with_reducible refine ind_andM (by kernel_rfl) ?_
   refine fin1' ?_
   simp -implicitDefEqProofs only [go_sem]
   all_goals (simp [e]; done)
end Go.Proofs.YtlddcknkojieeaaGreat
namespace Go.Proofs.YtlddcknkojieeaaGreat
open Go.Eng Go.Mod
open Int renaming reduceEq → Z1,reduceLT → Z2,reduceLE → Z3,reduceToNat → Z4
set_option maxRecDepth 100000
set_option maxHeartbeats 400000
theorem c_spec_l10Put (l:List Int) (n:Int) (hb9:∀ x ∈ l,x.natAbs ≤ 60) (hn:n.natAbs ≤ 60) (hlen:l.length ≤ 1000):C E.P 200 [lv (rowsI l),iv n] [] (Eq2 (.tup [lv (rowsI ((put1 l n).getD l)),bv (put1 l n).isSome]) []):=by
 have qn:=abs60_nat (n:=n) (by omega)
 have hc2:=c_spec_l10Abs n
 rw [qn] at hc2
 have hLB:=LB_eq
 refine C_goS (nt:=60) (rs:=[.tmp 4,.tmp 5]) hm Tryz.func200 rfl rfl rfl rfl rfl (fun hl he=>?_)
 simp -implicitDefEqProofs only [go_sem] at hl ⊢
 refine loop_go1 hm (fun (k:Nat)=> k ≤ l.length ∧ put1 l n = (put1 (l.drop k) n).map (l.take k ++ ·)) (fun (k:Nat)=> ⟨mkS 60 .any [(0,lv (rowsI l)),(1,iv n),(6,iv k)],[]⟩) (fun (k:Nat)=> l.length - k) (0) ?_ (weakS [] ?_ ?_ rfl rfl) ?_
 rotate_left
 ·simp -implicitDefEqProofs only [go_sem]
 ·simp -implicitDefEqProofs only [go_sem]
 rotate_left
 ·simp
 ·rintro k ⟨hk,hg⟩
  rcases Classical.em (k < l.length) with h1 | h1
  ·have hb:=hb9 l[k] (List.getElem_mem h1)
   have qk:=abs60_nat (n:=l[k]) (by omega)
   have hc1:=c_spec_l10Abs l[k]
   rw [qk] at hc1
   rw [put1_drop h1] at hg
   simp -implicitDefEqProofs only [go_sem,h1]
   refine atCall [] hc1 ?_ ?_ <;> simp -implicitDefEqProofs only [go_sem]
   refine atCall [] hc2 ?_ ?_ <;> simp -implicitDefEqProofs only [go_sem]
   rcases Classical.em (l[k].natAbs < n.natAbs) with h2 | h2
   ·rw [if_pos (by omega)] at hg
    simp -implicitDefEqProofs only [go_sem,h2]
    repeat (with_reducible apply And.intro; case left=>omega)
    refine ⟨k + 1,?_,?_,weakS [] ?_ ?_ rfl rfl⟩
    rotate_left
    ·show _ < _
     omega
    ·simp -implicitDefEqProofs only [go_sem]
    ·simp -implicitDefEqProofs only [go_sem]
    refine ⟨by omega,?_⟩
    rw [hg,take_snoc h1]
    cases put1 (l.drop (k + 1)) n <;> simp only [Option.map_none,Option.map_some,List.append_assoc,List.singleton_append]
   ·rw [if_neg (by omega)] at hg
    simp -implicitDefEqProofs only [go_sem,h2,h1]
    refine atCall [] hc1 ?_ ?_ <;> simp -implicitDefEqProofs only [go_sem]
    refine atCall [] hc2 ?_ ?_ <;> simp -implicitDefEqProofs only [go_sem]
    rcases Classical.em (l[k].natAbs = n.natAbs) with h3 | h3
    ·have k3:=eq_true h3
     rw [if_pos (by omega)] at hg
     rcases Classical.em (l[k] = n) with h4 | h4
     ·have k4:=eq_true h4
      rw [if_pos h4] at hg
      have e:put1 l n = some l:=by rw [hg]; simp
      simp -implicitDefEqProofs only [go_sem,k3,h1,k4]
      with_reducible refine ind_andM (by kernel_rfl) ?_
      refine fin1' ?_
      simp -implicitDefEqProofs only [go_sem]
      rw [e]
      exact ⟨rfl,rfl⟩
     ·rw [if_neg h4] at hg
      have e:put1 l n = none:=by rw [hg]; rfl
      simp -implicitDefEqProofs only [go_sem,k3,h1,h4]
      with_reducible refine ind_andM (by kernel_rfl) ?_
      refine fin1' ?_
      simp -implicitDefEqProofs only [go_sem]
      rw [e]
      exact ⟨rfl,rfl⟩
    ·rw [if_neg (by omega)] at hg
     have e:put1 l n = some (l.take k ++ n :: l.drop k):=by rw [hg]; rfl
     simp -implicitDefEqProofs only [go_sem,h3]
     simp only [Nat.sub_zero,List.drop_zero,rowsI_drop,rowsI_take,rowsI_len,List.length_append,List.length_take,List.length_drop,List.length_singleton]
     refine ⟨⟨by omega,rowsI_all _⟩,⟨rowsI_all _,by omega,by omega⟩,⟨by omega,rowsI_all _⟩,⟨rowsI_all _,by omega,by omega⟩,⟨by omega,by omega⟩,⟨⟨_,rfl,rfl⟩,by omega,by omega⟩,?_⟩
     refine fin1' ?_
     simp -implicitDefEqProofs only [go_sem]
     have ed:(l.drop k).take (l.length - k) = l.drop k:=List.take_of_length_le (by rw [List.length_drop]; omega)
     rw [e,ed]
     refine ⟨?_,rfl⟩
     rw [Option.getD_some,List.append_assoc,← rowsI_app,rowsI_cons]
     rfl
  ·rw [put1_end (by omega)] at hg
   have et:l.take k = l:=List.take_of_length_le (by omega)
   have e:put1 l n = some (l ++ [n]):=by rw [hg,et]; rfl
   simp -implicitDefEqProofs only [go_sem,h1]
   simp only [Nat.sub_zero,List.drop_zero,rowsI_drop,rowsI_take,rowsI_len,List.length_append,List.length_take,List.length_drop,List.length_singleton]
   refine ⟨⟨by omega,rowsI_all _⟩,⟨rowsI_all _,by omega,by omega⟩,⟨by omega,rowsI_all _⟩,⟨rowsI_all _,by omega,by omega⟩,⟨by omega,by omega⟩,⟨⟨_,rfl,rfl⟩,by omega,by omega⟩,?_⟩
   refine fin1' ?_
   simp -implicitDefEqProofs only [go_sem]
   have ed:(l.drop k).take (l.length - k) = []:=by rw [List.drop_of_length_le (by omega),List.take_nil]
   rw [e,ed,et]
   refine ⟨?_,rfl⟩
   rw [Option.getD_some,← rowsI_app,rowsI_nil,List.append_nil]
   rfl
theorem c_spec_ClauseOf (l:List Int) (hlen:l.length ≤ 100):C E.P 146 [lv (rowsI l)] [] (Eq2 (.tup [lv (rowsI ((clauseOf l).getD [])),bv (clauseOf l).isSome]) []):=by
 have hLB:=LB_eq
 refine C_goS (nt:=50) (rs:=[.tmp 2,.tmp 3]) hm Tryz.func146 rfl rfl rfl rfl rfl (fun hl he=>?_)
 simp -implicitDefEqProofs only [go_sem] at hl ⊢
 refine loop_go1 hm (fun (i:Nat)=> i ≤ l.length ∧ (l.all fun x=>isMark x 60) = ((l.drop i).all fun x=>isMark x 60)) (fun (i:Nat)=> ⟨mkS 50 .any [(0,lv (rowsI l)),(4,lv (rowsI [])),(5,iv i)],[]⟩) (fun (i:Nat)=> l.length - i) (0) ?_ (weakS [] ?_ ?_ rfl rfl) ?_
 rotate_left
 ·simp -implicitDefEqProofs only [go_sem]
 ·simp -implicitDefEqProofs only [go_sem]
 rotate_left
 ·simp
 ·rintro i ⟨hi,hg⟩
  rcases Classical.em (i < l.length) with h1 | h1
  ·rw [List.drop_eq_getElem_cons h1,List.all_cons] at hg
   rcases Classical.em (l[i] = 0) with h2 | h2
   ·have k2:=eq_true h2
    have e2:isMark l[i] 60 = false:=by simp [isMark,h2]
    rw [e2,Bool.false_and] at hg
    simp -implicitDefEqProofs only [go_sem,h1,k2]
    refine fin1' ?_
    simp -implicitDefEqProofs only [go_sem]
    all_goals (simp [clauseOf_bad hg]; done)
   ·simp -implicitDefEqProofs only [go_sem,h1,h2]
    refine atCall [] (c_spec_l10Abs l[i]) ?_ ?_ <;> simp -implicitDefEqProofs only [go_sem]
    rcases Classical.em ((60:Int) < abs60 l[i]) with h3 | h3
    ·have e2:isMark l[i] 60 = false:=by
      cases hh:isMark l[i] 60
      ·rfl
      ·have:=(abs60_le (n:=l[i]) (many:=60) (by omega)).2 (isMark_iff.1 hh).2
       omega
     rw [e2,Bool.false_and] at hg
     simp -implicitDefEqProofs only [go_sem,h3]
     refine fin1' ?_
     simp -implicitDefEqProofs only [go_sem]
     all_goals (simp [clauseOf_bad hg]; done)
    ·have hb:=(abs60_le (n:=l[i]) (many:=60) (by omega)).1 (by omega)
     have e2:isMark l[i] 60 = true:=isMark_iff.2 ⟨h2,hb⟩
     rw [e2,Bool.true_and] at hg
     simp -implicitDefEqProofs only [go_sem,h3]
     repeat (with_reducible apply And.intro; case left=>omega)
     refine ⟨i + 1,?_,?_,weakS [] ?_ ?_ rfl rfl⟩
     rotate_left
     ·show _ < _
      omega
     ·simp -implicitDefEqProofs only [go_sem]
     ·simp -implicitDefEqProofs only [go_sem]
     exact ⟨by omega,hg⟩
  ·rw [List.drop_of_length_le (by omega),List.all_nil] at hg
   have h60:=isMark60 hg
   have e:=clauseOf_good hg
   simp -implicitDefEqProofs only [go_sem,h1]
   refine loop_go2 hm (fun (j:Nat) (out:List Int)=> j ≤ l.length ∧ putAll [] l = putAll out (l.drop j) ∧ out.length ≤ j ∧ (∀ x ∈ out,x.natAbs ≤ 60)) (fun (j:Nat) (out:List Int)=> ⟨mkS 50 .any [(0,lv (rowsI l)),(4,lv (rowsI out)),(6,iv j)],[]⟩) (fun (j:Nat) (out:List Int)=> l.length - j) (0) ([]) ?_ (weakS [] ?_ ?_ rfl rfl) ?_
   rotate_left
   ·simp -implicitDefEqProofs only [go_sem]
   ·simp -implicitDefEqProofs only [go_sem]
   rotate_left
   ·simp
   ·rintro j out ⟨hj,hp,ho,hx⟩
    rcases Classical.em (j < l.length) with h2 | h2
    ·rw [putAll_drop h2] at hp
     have hb:=h60 l[j] (List.getElem_mem h2)
     simp -implicitDefEqProofs only [go_sem,h2]
     refine atCall [] (c_spec_l10Put out l[j] hx hb.2 (by omega)) ?_ ?_ <;> simp -implicitDefEqProofs only [go_sem]
     cases h3:put1 out l[j] with
     | none=>
       rw [h3] at hp
       rw [hp] at e
       simp -implicitDefEqProofs only [go_sem,Option.isSome_none,Option.getD_none]
       refine fin1' ?_
       simp -implicitDefEqProofs only [go_sem]
       all_goals (simp [e]; done)
     | some o=>
       rw [h3] at hp
       obtain ⟨s1,s2⟩:=put1_sub h3
       simp -implicitDefEqProofs only [go_sem,Option.isSome_some,Option.getD_some]
       repeat (with_reducible apply And.intro; case left=>omega)
       refine ⟨j + 1,o,?_,?_,weakS [] ?_ ?_ rfl rfl⟩
       rotate_left
       ·show _ < _
        omega
       ·simp -implicitDefEqProofs only [go_sem]
       ·simp -implicitDefEqProofs only [go_sem]
       refine ⟨by omega,hp,by omega,fun x hxo=>?_⟩
       rcases s2 x hxo with e3 | e3
       ·rw [e3]; exact hb.2
       ·exact hx x e3
    ·rw [List.drop_of_length_le (by omega),putAll] at hp
     rw [hp] at e
     simp -implicitDefEqProofs only [go_sem,h2]
     refine fin1' ?_
     simp -implicitDefEqProofs only [go_sem]
     all_goals (simp [e]; done)
end Go.Proofs.YtlddcknkojieeaaGreat
