/-
  The walks of texts of terms and of atoms. A step towards the exact laws.
-/
import Derived.Test.YtpidddienjoleaaGreatKAH
import Derived.Test.YtpidddienjoleaaGreatKAE
import Derived.Test.YtpidddienjoleaaGreatKAG
set_option linter.unusedVariables false
set_option linter.unusedSimpArgs false
namespace Go.Proofs.YtpidddienjoleaaGreat
open Go.Eng Go.Mod
open Int renaming reduceEq → Z1,reduceLT → Z2,reduceLE → Z3,reduceToNat → Z4
set_option maxRecDepth 100000
set_option maxHeartbeats 400000
theorem termText_eq (t:Term) (h:t.kids ≠ []):termText t = t.name ++ (40 :: (Lib.join (t.kids.map termText) [44] ++ [41])):=by
 have key:∀ ts,termTexts ts = ts.map termText:=by
  intro ts
  induction ts with
  | nil=>rfl
  | cons t ts ih=>simp only [termTexts,List.map_cons,ih]
 match t,h with
 | .mk n (k :: ks),_=>
   simp only [termText,Term.name,Term.kids,List.map_cons,← commas_join,key]
theorem termText_nil (t:Term) (h:t.kids = []):termText t = t.name:=by
 match t,h with
 | .mk n [],_=>rfl
theorem join_len {t:Term} {d:Nat} (h:tShape t d = true) (hd:d ≤ 4) (hk:t.kids ≠ []):(Lib.join (t.kids.map termText) [44]).length ≤ 122:=by
 have h1:=termText_len h hd
 rw [termText_eq t hk] at h1
 simp only [List.length_append,List.length_cons] at h1
 omega
theorem rowsS_map {xs:List Term} {i:Nat} (h:i < xs.length) (f:Term → Str):rowsS ((xs.take i).map f) ++ [[.str (f xs[i])]] = rowsS ((xs.take (i + 1)).map f):=by
 have e:xs.take (i + 1) = xs.take i ++ [xs[i]]:=by rw [List.take_add_one,List.getElem?_eq_getElem h]; rfl
 rw [e,List.map_append,← rowsS_app]
 rfl
theorem nameOk_len {n:Str} (h:nameOk n = true):n.length ≤ 2:=by
 simp only [nameOk,Bool.and_eq_true] at h
 have:=withinB_iff.1 h.1
 omega
theorem c_impl_termText1 (t:Term) (ih:∀ k ∈ t.kids,∀ d:Nat,d ≤ 4 → tShape k d = true → C E.P 108 [av (cT k)] [] (Eq2 (sv (termText k)) [])) (d:Nat) (hd:d ≤ 4) (hsh:tShape t d = true) :
 C E.P 108 [av (cT t)] [] (Eq2 (sv (termText t)) []):=by
 cases d with
 | zero=>cases t; simp [tShape] at hsh
 | succ d=>
 have hk:=tShape_kids hsh
 have hnm:=nameOk_len hk.1
 have hLB:=LB_eq
 refine C_goS (nt:=32) (rs:=[.tmp 2]) hm Tryz.func108 rfl rfl rfl rfl rfl (fun hl he=>?_)
 simp -implicitDefEqProofs only [go_sem] at hl ⊢
 rcases Classical.em ((t.kids.length:Int) = 0) with h0 | h0
 ·have e:t.kids = []:=List.length_eq_zero_iff.1 (by omega)
  have k:=eq_true h0
  simp -implicitDefEqProofs only [go_sem,k]
  refine fin1' ?_
  simp -implicitDefEqProofs only [go_sem]
  all_goals (simp [termText_nil t e]; done)
 ·have e:t.kids ≠ []:=fun h=>h0 (by rw [h]; rfl)
  have hj:=join_len hsh hd e
  simp -implicitDefEqProofs only [go_sem,h0]
  refine loop_go1 hm (fun (i:Nat)=> i ≤ t.kids.length) (fun (i:Nat)=> ⟨mkS 32 .any [(1,.ptr 0 0),(3,.acc 1),(13,lv (rowsT t.kids)),(14,iv t.kids.length),(15,iv i)],[some (.box (pvs (cT t))),some (.acc 9 (rowsS ((t.kids.take i).map termText)))]⟩) (fun (i:Nat)=> t.kids.length - i) (0) ?_ (weakS [some 0,none] ?_ ?_ rfl rfl) ?_
  rotate_left
  ·simp -implicitDefEqProofs only [go_sem]
  ·simp -implicitDefEqProofs only [go_sem]
  rotate_left
  ·omega
  ·rintro i hi
   rcases Classical.em (i < t.kids.length) with h1 | h1
   ·simp -implicitDefEqProofs only [go_sem,h1]
    have hc:=ih t.kids[i] (List.getElem_mem h1) d (by omega) (tShapes_mem hk.2.2 _ (List.getElem_mem h1))
    refine atCall [] hc ?_ ?_ <;> simp -implicitDefEqProofs only [go_sem]
    repeat (with_reducible apply And.intro; case left=>omega)
    refine ⟨i + 1,?_,?_,weakS [some 0,some 3] ?_ ?_ rfl rfl⟩
    rotate_left
    ·show _ < _
     omega
    ·simp -implicitDefEqProofs only [go_sem]
    ·simp -implicitDefEqProofs only [go_sem]
     all_goals (exact rowsS_map h1 _)
    exact h1
   ·have et:t.kids.take i = t.kids:=List.take_of_length_le (by omega)
    simp -implicitDefEqProofs only [go_sem,h1,et]
    repeat (with_reducible apply And.intro; case left=>omega)
    refine atLook [] [1] (c_strings_Join (t.kids.map termText) [44] (by simp; omega) (by omega)) rfl ?_ ?_ ?_
    ·(simp -implicitDefEqProofs only [go_sem]; repeat' (first | exact Vws.nil | apply Vws.cons | exact Vw.same (by first | rfl | simp -implicitDefEqProofs only [go_sem,Z1,Z2,Z3,Z4]) | exact Vw.acc rfl rfl | exact Vw.tre rfl rfl (by simp -implicitDefEqProofs only [go_sem,Z1,Z2,Z3,Z4]) | exact Vw.nil | apply Vw.agg | apply Vw.fn | refine Vw.box rfl rfl ?_))
    all_goals simp -implicitDefEqProofs only [go_sem]
    repeat (first | with_reducible refine ind_andM (by kernel_rfl) ?_ | (with_reducible apply And.intro; case left=>(simp; omega)))
    refine fin1' ?_
    simp -implicitDefEqProofs only [go_sem]
    all_goals (simp [termText_eq t e]; done)
theorem c_impl_termText:∀ (t:Term) (d:Nat),d ≤ 4 → tShape t d = true → C E.P 108 [av (cT t)] [] (Eq2 (sv (termText t)) []):=
 Term.ind fun n ks ih d h1 h2=>c_impl_termText1 (.mk n ks) ih d h1 h2
theorem c_impl_isNumber_neg (s:Sig) (t:Term):C E.P 82 [av (cT t),.iptr [cSig s] 0 0] [] (Eq2 (bv (!isNumber s t)) []):=by
 have hLB:=LB_eq
 refine C_goS (nt:=8) (rs:=[.tmp 3]) hm Tryz.func82 rfl rfl rfl rfl rfl (fun hl he=>?_)
 simp -implicitDefEqProofs only [go_sem] at hl ⊢
 refine atCall [] (c_impl_isNumber s t) ?_ ?_ <;> simp -implicitDefEqProofs only [go_sem]
 refine fin1' ?_
 simp -implicitDefEqProofs only [go_sem]
def prevTerm (l:List Term):Nat → Option Term
 | 0=>none
 | j + 1=>l[j]?
theorem numsGo_drop {p:Option Term} {ts:List Term} {ns:List Int} {i:Nat} (h:i < ts.length) (h':i < ns.length):numsGo p (ts.drop i) (ns.drop i) = (isTerm ts[i] && (within ns[i] (-50) 50 && (decide (ns[i] ≠ 0) && ((match p with | none=>true | some q=>sLess (termText q) (termText ts[i])) && numsGo (some ts[i]) (ts.drop (i + 1)) (ns.drop (i + 1)))))):=by
 rw [List.drop_eq_getElem_cons h,List.drop_eq_getElem_cons h']
 rfl
theorem c_impl_termText' (t:Term) (h:isTerm t = true):C E.P 108 [av (cT t)] [] (Eq2 (sv (termText t)) []):=c_impl_termText t 4 (by omega) (isTerm_tShape h)
theorem c_impl_Atom_ok_eq (a:Atom) (k1:a.kind = 1):C E.P 42 [av (cAtom a)] [] (Eq2 (bv (atomWf a)) []):=by
 have e:atomWf a = (isTerm a.A && (isTerm a.B && (decide (a.nums.length = 0) && (decide (a.times.length = 0) && (decide (a.bound = 0) && !a.strict))))):=by simp [atomWf,k1]
 have hLB:=LB_eq
 refine C_goS (nt:=118) (rs:=[.tmp 2]) hm Tryz.func42 rfl rfl rfl rfl rfl (fun hl he=>?_)
 simp -implicitDefEqProofs only [go_sem] at hl ⊢
 simp -implicitDefEqProofs only [go_sem,k1]
 refine atCall [] (c_impl_isTerm a.A) ?_ ?_ <;> simp -implicitDefEqProofs only [go_sem]
 cases h1:isTerm a.A
 ·simp -implicitDefEqProofs only [go_sem]
  refine fin1' ?_
  simp -implicitDefEqProofs only [go_sem]
  all_goals (simp [e,h1]; done)
 ·simp -implicitDefEqProofs only [go_sem]
  refine atCall [] (c_impl_isTerm a.B) ?_ ?_ <;> simp -implicitDefEqProofs only [go_sem]
  cases h2:isTerm a.B
  ·simp -implicitDefEqProofs only [go_sem]
   refine fin1' ?_
   simp -implicitDefEqProofs only [go_sem]
   all_goals (simp [e,h1,h2]; done)
  ·simp -implicitDefEqProofs only [go_sem]
   rcases Classical.em ((a.nums.length:Int) = 0) with h3 | h3
   ·have h3':a.nums.length = 0:=by omega
    have k3:=eq_true h3
    simp -implicitDefEqProofs only [go_sem,k3]
    rcases Classical.em ((a.times.length:Int) = 0) with h4 | h4
    ·have h4':a.times.length = 0:=by omega
     have k4:=eq_true h4
     simp -implicitDefEqProofs only [go_sem,k4]
     rcases Classical.em (a.bound = 0) with h5 | h5
     ·have k5:=eq_true h5
      simp -implicitDefEqProofs only [go_sem,k5]
      refine fin1' ?_
      simp -implicitDefEqProofs only [go_sem]
      all_goals (simp [e,h1,h2,h3',h4',h5]; done)
     ·simp -implicitDefEqProofs only [go_sem,h5]
      refine fin1' ?_
      simp -implicitDefEqProofs only [go_sem]
      all_goals (simp [e,h1,h2,h3',h4',h5]; done)
    ·have h4':¬ a.times.length = 0:=by omega
     simp -implicitDefEqProofs only [go_sem,h4]
     refine fin1' ?_
     simp -implicitDefEqProofs only [go_sem]
     all_goals (simp [e,h1,h2,h3',h4']; done)
   ·have h3':¬ a.nums.length = 0:=by omega
    simp -implicitDefEqProofs only [go_sem,h3]
    refine fin1' ?_
    simp -implicitDefEqProofs only [go_sem]
    all_goals (simp [e,h1,h2,h3']; done)
theorem prev_step {l:List Term} {i:Nat} (h:i < l.length):prevTerm l (i + 1) = some l[i]:=by simp [prevTerm,h]
theorem c_impl_Atom_ok_sum (a:Atom) (k2:a.kind = 2):C E.P 42 [av (cAtom a)] [] (Eq2 (bv (atomWf a)) []):=by
 have e:atomWf a = (isNone a.A && (isNone a.B && (within a.nums.length 1 4 && (decide (a.times.length = a.nums.length) && (within a.bound (-1000) 1000 && numsGo none a.nums a.times))))):=by simp [atomWf,k2]
 have hLB:=LB_eq
 refine C_goS (nt:=118) (rs:=[.tmp 2]) hm Tryz.func42 rfl rfl rfl rfl rfl (fun hl he=>?_)
 simp -implicitDefEqProofs only [go_sem] at hl ⊢
 simp -implicitDefEqProofs only [go_sem,Z1,k2]
 refine atCall [] (c_impl_isNone a.A) ?_ ?_ <;> simp -implicitDefEqProofs only [go_sem]
 cases h1:isNone a.A
 ·simp -implicitDefEqProofs only [go_sem]
  refine fin1' ?_
  simp -implicitDefEqProofs only [go_sem]
  all_goals (simp [e,h1]; done)
 ·simp -implicitDefEqProofs only [go_sem]
  refine atCall [] (c_impl_isNone a.B) ?_ ?_ <;> simp -implicitDefEqProofs only [go_sem]
  cases h2:isNone a.B
  ·simp -implicitDefEqProofs only [go_sem]
   refine fin1' ?_
   simp -implicitDefEqProofs only [go_sem]
   all_goals (simp [e,h1,h2]; done)
  ·simp -implicitDefEqProofs only [go_sem]
   refine atCall [] (c_impl_within a.nums.length 1 4) ?_ ?_ <;> simp -implicitDefEqProofs only [go_sem]
   cases h3:within a.nums.length 1 4
   ·simp -implicitDefEqProofs only [go_sem]
    refine fin1' ?_
    simp -implicitDefEqProofs only [go_sem]
    all_goals (simp [e,h1,h2,h3]; done)
   ·simp -implicitDefEqProofs only [go_sem]
    rcases Classical.em (a.times.length = a.nums.length) with h4 | h4
    ·have k4:=eq_true h4
     simp -implicitDefEqProofs only [go_sem,k4]
     refine atCall [] (c_impl_within a.bound (-1000) 1000) ?_ ?_ <;> simp -implicitDefEqProofs only [go_sem]
     cases h5:within a.bound (-1000) 1000
     ·simp -implicitDefEqProofs only [go_sem]
      refine fin1' ?_
      simp -implicitDefEqProofs only [go_sem]
      all_goals (simp [e,h1,h2,h3,h4,h5]; done)
     ·have e:atomWf a = numsGo none a.nums a.times:=by simp [e,h1,h2,h3,h4,h5]
      simp -implicitDefEqProofs only [go_sem]
      refine loop_go1 hm (fun (i:Nat)=> i ≤ a.nums.length ∧ atomWf a = numsGo (prevTerm a.nums i) (a.nums.drop i) (a.times.drop i) ∧ ∀ q,prevTerm a.nums i = some q → isTerm q = true) (fun (i:Nat)=> ⟨mkS 118 .any [(1,.ptr 0 0),(74,lv (rowsT a.nums)),(75,iv a.nums.length),(76,iv i)],[some (.box (pvs (cAtom a)))]⟩) (fun (i:Nat)=> a.nums.length - i) (0) ?_ (weakS [some 0] ?_ ?_ rfl rfl) ?_
      rotate_left
      ·simp -implicitDefEqProofs only [go_sem]
      ·simp -implicitDefEqProofs only [go_sem]
       all_goals (simp [*]; done)
      rotate_left
      ·exact ⟨by omega,e,fun q h=>by cases h⟩
      ·rintro i ⟨hi,hg,hp⟩
       rcases Classical.em (i < a.nums.length) with g1 | g1
       ·have g2:i < a.times.length:=by omega
        rw [numsGo_drop g1 g2] at hg
        simp -implicitDefEqProofs only [go_sem,g1]
        refine atCall [] (c_impl_isTerm a.nums[i]) ?_ ?_ <;> simp -implicitDefEqProofs only [go_sem]
        cases q1:isTerm a.nums[i]
        ·rw [q1,Bool.false_and] at hg
         simp -implicitDefEqProofs only [go_sem]
         with_reducible refine ind_andM (by kernel_rfl) ?_
         refine fin1' ?_
         simp -implicitDefEqProofs only [go_sem]
         all_goals (simp [hg]; done)
        ·rw [q1,Bool.true_and] at hg
         simp -implicitDefEqProofs only [go_sem,g2]
         refine atCall [] (c_impl_within a.times[i] (-50) 50) ?_ ?_ <;> simp -implicitDefEqProofs only [go_sem]
         cases q2:within a.times[i] (-50) 50
         ·rw [q2,Bool.false_and] at hg
          simp -implicitDefEqProofs only [go_sem]
          with_reducible refine ind_andM (by kernel_rfl) ?_
          refine fin1' ?_
          simp -implicitDefEqProofs only [go_sem]
          all_goals (simp [hg]; done)
         ·rw [q2,Bool.true_and] at hg
          simp -implicitDefEqProofs only [go_sem,g2]
          rcases Classical.em (a.times[i] = 0) with q3 | q3
          ·have k3:=eq_true q3
           simp only [k3,not_true,ne_eq,decide_false,Bool.false_and] at hg
           simp -implicitDefEqProofs only [go_sem,k3]
           with_reducible refine ind_andM (by kernel_rfl) ?_
           refine fin1' ?_
           simp -implicitDefEqProofs only [go_sem]
           all_goals (simp [hg]; done)
          ·simp only [q3,not_false_eq_true,ne_eq,decide_true,Bool.true_and] at hg
           cases i with
           | zero=>
             simp only [prevTerm,Bool.true_and] at hg
             simp -implicitDefEqProofs only [go_sem,q3,Int.lt_irrefl]
             with_reducible refine ind_andM (by kernel_rfl) ?_
             repeat (with_reducible apply And.intro; case left=>omega)
             refine ⟨0 + 1,?_,?_,weakS [some 0] ?_ ?_ rfl rfl⟩
             rotate_left
             ·show _ < _
              omega
             ·simp -implicitDefEqProofs only [go_sem]
              all_goals (simp [*]; done)
             ·simp -implicitDefEqProofs only [go_sem]
             refine ⟨by omega,?_,?_⟩
             ·rw [hg,prev_step g1]
             ·intro q hq
              rw [prev_step g1] at hq
              cases hq
              exact q1
           | succ j=>
             have hj:j < a.nums.length:=by omega
             have e1:((j:Int) + 1 - 1) = (j:Int):=by omega
             have e2:(0:Int) < (j:Int) + 1:=by omega
             have tp:=hp _ (prev_step hj)
             rw [prev_step hj] at hg
             simp only at hg
             simp -implicitDefEqProofs only [go_sem,q3,e1,e2,hj]
             repeat (with_reducible apply And.intro; case left=>omega)
             refine atCall [] (c_impl_termText' a.nums[j] tp) ?_ ?_ <;> simp -implicitDefEqProofs only [go_sem]
             refine atCall [] (c_impl_termText' a.nums[j + 1] q1) ?_ ?_ <;> simp -implicitDefEqProofs only [go_sem]
             with_reducible refine ind_andM (by kernel_rfl) ?_
             cases q4:sLess (termText a.nums[j]) (termText a.nums[j + 1])
             ·rw [q4,Bool.false_and] at hg
              have h5:Op.bytesLess (termText a.nums[j]) (termText a.nums[j + 1]) = false:=q4
              simp -implicitDefEqProofs only [go_sem,h5]
              refine fin1' ?_
              simp -implicitDefEqProofs only [go_sem]
              all_goals (simp [hg]; done)
             ·rw [q4,Bool.true_and] at hg
              have h5:Op.bytesLess (termText a.nums[j]) (termText a.nums[j + 1]) = true:=q4
              simp -implicitDefEqProofs only [go_sem,h5]
              repeat (with_reducible apply And.intro; case left=>omega)
              refine ⟨j + 1 + 1,?_,?_,weakS [some 0] ?_ ?_ rfl rfl⟩
              rotate_left
              ·show _ < _
               omega
              ·simp -implicitDefEqProofs only [go_sem]
              ·simp -implicitDefEqProofs only [go_sem]
              refine ⟨by omega,?_,?_⟩
              ·rw [hg,prev_step g1]
              ·intro q hq
               rw [prev_step g1] at hq
               cases hq
               exact q1
       ·rw [List.drop_of_length_le (by omega),List.drop_of_length_le (by omega)] at hg
        have hg:atomWf a = true:=by rw [hg]; cases prevTerm a.nums i <;> rfl
        simp -implicitDefEqProofs only [go_sem,g1]
        refine fin1' ?_
        simp -implicitDefEqProofs only [go_sem]
        all_goals (simp [hg]; done)
    ·simp -implicitDefEqProofs only [go_sem,h4]
     refine fin1' ?_
     simp -implicitDefEqProofs only [go_sem]
     all_goals (simp [e,h1,h2,h3,h4]; done)
theorem c_impl_Atom_ok (a:Atom):C E.P 42 [av (cAtom a)] [] (Eq2 (bv (atomWf a)) []):=by
 rcases Classical.em (a.kind = 1) with k1 | k1
 ·exact c_impl_Atom_ok_eq a k1
 ·rcases Classical.em (a.kind = 2) with k2 | k2
  ·exact c_impl_Atom_ok_sum a k2
  ·have hLB:=LB_eq
   refine C_goS (nt:=118) (rs:=[.tmp 2]) hm Tryz.func42 rfl rfl rfl rfl rfl (fun hl he=>?_)
   simp -implicitDefEqProofs only [go_sem] at hl ⊢
   simp -implicitDefEqProofs only [go_sem,k1,k2]
   refine fin1' ?_
   simp -implicitDefEqProofs only [go_sem]
   all_goals (simp [atomWf,k1,k2]; done)
theorem c_impl_AtomOk (s:Sig) (a:Atom):C E.P 37 [av (cSig s),av (cAtom a)] [] (Eq2 (bv (atomOk s a)) []):=by
 have hLB:=LB_eq
 refine C_goS (nt:=28) (rs:=[.tmp 4]) hm Tryz.func37 rfl rfl rfl rfl rfl (fun hl he=>?_)
 simp -implicitDefEqProofs only [go_sem] at hl ⊢
 refine atCall [] (c_impl_SigOk s) ?_ ?_ <;> simp -implicitDefEqProofs only [go_sem]
 cases h1:sigOk s
 ·simp -implicitDefEqProofs only [go_sem]
  refine fin1' ?_
  simp -implicitDefEqProofs only [go_sem]
  all_goals (simp [atomOk,h1]; done)
 ·simp -implicitDefEqProofs only [go_sem]
  refine atCall [] (c_impl_Atom_ok a) ?_ ?_ <;> simp -implicitDefEqProofs only [go_sem]
  cases h2:atomWf a
  ·simp -implicitDefEqProofs only [go_sem]
   refine fin1' ?_
   simp -implicitDefEqProofs only [go_sem]
   all_goals (simp [atomOk,h1,h2]; done)
  ·simp -implicitDefEqProofs only [go_sem]
   rcases Classical.em (a.kind = 1) with k1 | k1
   ·have k:=eq_true k1
    simp -implicitDefEqProofs only [go_sem,k]
    refine atCall [] (c_impl_Eq_sorted ⟨a.A,a.B⟩ s) ?_ ?_ <;> simp -implicitDefEqProofs only [go_sem]
    refine fin1' ?_
    simp -implicitDefEqProofs only [go_sem]
    all_goals (simp [atomOk,h1,h2,k1]; done)
   ·simp -implicitDefEqProofs only [go_sem,k1]
    refine atLook [] [0] (c_ContainsFunc_Term 82 [.iptr [cSig s] 0 0] rfl (fun t=>!isNumber s t) a.nums (fun t _=>c_impl_isNumber_neg s t)) rfl ?_ ?_ ?_
    ·(simp -implicitDefEqProofs only [go_sem]; repeat' (first | exact Vws.nil | apply Vws.cons | exact Vw.same (by first | rfl | simp -implicitDefEqProofs only [go_sem,Z1,Z2,Z3,Z4]) | exact Vw.acc rfl rfl | exact Vw.tre rfl rfl (by simp -implicitDefEqProofs only [go_sem,Z1,Z2,Z3,Z4]) | exact Vw.nil | apply Vw.agg | apply Vw.fn | refine Vw.box rfl rfl ?_))
    all_goals simp -implicitDefEqProofs only [go_sem]
    refine fin1' ?_
    simp -implicitDefEqProofs only [go_sem]
    all_goals (simp [atomOk,h1,h2,k1,List.all_eq_not_any_not]; done)
end Go.Proofs.YtpidddienjoleaaGreat
