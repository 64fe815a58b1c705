/-
  Plain laws on literals that are decided: their terms and numbers stay the same where more is told of these. No program is walked here. Plain laws on what is asked of literals: the first that clashes, the first pair, the rows of a model. No program is walked here. Plain laws on literals that are decided: bounds, the next ones. No program is walked here. Plain laws on edges as they lie, on lists turned round, and on what a search has met. No program is walked here. Plain laws on rows that are put in order. No program is walked here. What is drawn from a code, going on: literals to be decided. No program is walked here. Plain laws on decisions: a model that is answered is one, a reason that is answered has a kind. No program is walked here.
-/
import Derived.Test.YtpidddienjoleaaGreatKAE
import Derived.Test.YtpidddienjoleaaGreatKAEk
import Derived.Test.YtpidddienjoleaaGreatKADa
import Derived.Test.YtpidddienjoleaaGreatKAEb
set_option linter.unusedVariables false
set_option linter.unusedSimpArgs false
namespace Go.Mod
open Go.Eng
set_option maxRecDepth 100000
theorem kids_app {l:List Term} {t:Term} (h:KidsIn l) (ht:∀ k ∈ t.kids,k ∈ l):KidsIn (l ++ [t]):=by
 intro u hu k hk
 rcases List.mem_append.1 hu with hu | hu
 ·exact List.mem_append_left _ (h u hu k hk)
 ·simp only [List.mem_cons,List.not_mem_nil,or_false] at hu
  subst hu
  exact List.mem_append_left _ (ht k hk)
mutual
theorem withParts_kidsIn:∀ (t:Term) (l:List Term),KidsIn l → KidsIn (withParts l t)
 | .mk n ks,l,h=>by
   have h1:=withPartss_kidsIn ks l h
   rw [withParts]
   split
   ·exact kids_app h1 (withPartss_has ks l)
   ·exact h1
theorem withPartss_kidsIn:∀ (ts:List Term) (l:List Term),KidsIn l → KidsIn (withPartss l ts)
 | [],l,h=>by rw [withPartss]; exact h
 | t :: ts,l,h=>by
   rw [withPartss]
   exact withPartss_kidsIn ts _ (withParts_kidsIn t l h)
end
mutual
theorem withParts_nodup:∀ (t:Term) (l:List Term),l.Nodup → (withParts l t).Nodup
 | .mk n ks,l,h=>by
   have h1:=withPartss_nodup ks l h
   rw [withParts]
   split
   ·rename_i hlt
    refine List.nodup_append.2 ⟨h1,by simp,fun x hx y hy e=>?_⟩
    simp only [List.mem_cons,List.not_mem_nil,or_false] at hy
    rw [e,hy] at hx
    have:=termIdx_nn.2 hx
    omega
   ·exact h1
theorem withPartss_nodup:∀ (ts:List Term) (l:List Term),l.Nodup → (withPartss l ts).Nodup
 | [],l,h=>by rw [withPartss]; exact h
 | t :: ts,l,h=>by
   rw [withPartss]
   exact withPartss_nodup ts _ (withParts_nodup t l h)
end
mutual
theorem withParts_id:∀ (t:Term) (l:List Term),KidsIn l → t ∈ l → withParts l t = l
 | .mk n ks,l,h,ht=>by
   have h1:=withPartss_id ks l h fun k hk=>h _ ht k hk
   rw [withParts,h1]
   rw [if_neg (by have:=termIdx_nn.2 ht; omega)]
theorem withPartss_id:∀ (ts:List Term) (l:List Term),KidsIn l → (∀ t ∈ ts,t ∈ l) → withPartss l ts = l
 | [],l,_,_=>by rw [withPartss]
 | t :: ts,l,h,ht=>by
   rw [withPartss,withParts_id t l h (ht t (by simp))]
   exact withPartss_id ts l h fun u hu=>ht u (List.mem_cons_of_mem _ hu)
end
theorem withPartss_two (l:List Term) (xs ys:List Term):withPartss l (xs ++ ys) = withPartss (withPartss l xs) ys:=by
 rw [withPartss_fold,withPartss_fold,withPartss_fold,List.foldl_append]
theorem allTerms_app (a b:List LitD):allTerms (a ++ b) = allTerms a ++ allTerms b:=by simp [allTerms]
theorem mem_allTerms {lits:List LitD} {t:Term}:t ∈ allTerms lits ↔ ∃ l ∈ lits,t ∈ atomTerms l.atom:=by simp [allTerms]
structure GoodL (s:Sig) (lits:List LitD):Prop where
 sig:sigOk s = true
 fit:∀ l ∈ lits,Fit (numsOf s lits) l
 n24:(termsOf lits).length ≤ 24
 n4:(numsOf s lits).length ≤ 4
section
variable {s:Sig} {lits:List LitD}
theorem goodL_of (h:bothOk s lits = true):GoodL s lits:=by
 obtain ⟨h1,h2,h3,h4,h5,h6,h7,h8⟩:=fit_both h
 exact ⟨h5,h1,h8,h3⟩
variable (h:GoodL s lits)
include h
theorem GoodL.wf:∀ l ∈ lits,atomWf l.atom = true:=fun l hl=>(h.fit l hl).wf
theorem GoodL.all:∀ t ∈ allTerms lits,isTerm t = true:=(allTerms_ok h.wf).2
theorem GoodL.terms_eq:termsOf lits = withPartss [] (allTerms lits):=by rw [termsOf_eq,termParts_all h.all]
theorem GoodL.term:∀ t ∈ termsOf lits,isTerm t = true:=by rw [termsOf_eq]; exact termParts_terms h.all
theorem GoodL.kids:KidsIn (termsOf lits):=by rw [h.terms_eq]; exact withPartss_kidsIn _ _ fun t ht=>by simp at ht
theorem GoodL.nodup:(termsOf lits).Nodup:=by rw [h.terms_eq]; exact withPartss_nodup _ _ (by simp)
theorem GoodL.has:∀ l ∈ lits,∀ t ∈ atomTerms l.atom,t ∈ termsOf lits:=fun l hl t ht=>by
 rw [termsOf_eq]
 exact termParts_has h.all t (mem_allTerms.2 ⟨l,hl,ht⟩)
omit h in
theorem nums_sub:∀ t ∈ numsOf s lits,t ∈ termsOf lits:=fun t ht=>(List.mem_filter.1 ht).1
theorem GoodL.num:∀ t ∈ numsOf s lits,isTerm t = true:=fun t ht=>h.term t (nums_sub t ht)
theorem GoodL.numNodup:(numsOf s lits).Nodup:=h.nodup.filter _
theorem GoodL.eqs:∀ e ∈ eqsOf lits,e.A ∈ termsOf lits ∧ e.B ∈ termsOf lits ∧ (e.A ∈ numsOf s lits ↔ e.B ∈ numsOf s lits):=by
 intro e he
 simp only [eqsOf,List.mem_filterMap] at he
 obtain ⟨l,hl,e1⟩:=he
 split at e1
 ·rename_i hk
  simp only [Option.some.injEq] at e1
  have hm:atomTerms l.atom = [l.atom.A,l.atom.B]:=by simp [atomTerms,hk.1]
  rw [← e1]
  exact ⟨h.has l hl _ (by rw [hm]; simp),h.has l hl _ (by rw [hm]; simp),(h.fit l hl).eq hk.1⟩
 ·cases e1
theorem GoodL.same {l:LitD} (hw:atomWf l.atom = true) (hin:∀ t ∈ atomTerms l.atom,t ∈ termsOf lits):termsOf (lits ++ [l]) = termsOf lits:=by
 have hall:∀ t ∈ allTerms (lits ++ [l]),isTerm t = true:=by
  rw [allTerms_app]
  intro t ht
  rcases List.mem_append.1 ht with ht | ht
  ·exact h.all t ht
  ·obtain ⟨l',hl',ht2⟩:=mem_allTerms.1 ht
   simp only [List.mem_cons,List.not_mem_nil,or_false] at hl'
   rw [hl'] at ht2
   exact (atomTerms_ok hw).2 t ht2
 rw [termsOf_eq,termParts_all hall,allTerms_app,withPartss_two,← h.terms_eq]
 refine withPartss_id _ _ h.kids fun t ht=>?_
 obtain ⟨l',hl',ht2⟩:=mem_allTerms.1 ht
 simp only [List.mem_cons,List.not_mem_nil,or_false] at hl'
 rw [hl'] at ht2
 exact hin t ht2
theorem GoodL.more {l:LitD} (hf:Fit (numsOf s lits) l) (hin:∀ t ∈ atomTerms l.atom,t ∈ termsOf lits):GoodL s (lits ++ [l]) ∧ termsOf (lits ++ [l]) = termsOf lits ∧ numsOf s (lits ++ [l]) = numsOf s lits:=by
 have e1:=h.same hf.wf hin
 have e2:numsOf s (lits ++ [l]) = numsOf s lits:=by unfold numsOf; rw [e1]
 refine ⟨⟨h.sig,fun x hx=>?_,by rw [e1]; exact h.n24,by rw [e2]; exact h.n4⟩,e1,e2⟩
 rw [e2]
 rcases List.mem_append.1 hx with hx | hx
 ·exact h.fit x hx
 ·simp only [List.mem_cons,List.not_mem_nil,or_false] at hx
  rw [hx]; exact hf
omit h in
theorem terms_eqLit {a b:Term}:atomTerms (eqLit a b).atom = [a,b]:=rfl
omit h in
theorem terms_lessLit {a b:Term}:∀ t ∈ atomTerms (lessLit a b).atom,t = a ∨ t = b:=by
 intro t ht
 unfold lessLit at ht
 split at ht
 ·simp [atomTerms] at ht; exact ht.symm
 ·simp [atomTerms] at ht; exact ht
theorem GoodL.eq {a b:Term} (ha:a ∈ numsOf s lits) (hb:b ∈ numsOf s lits):GoodL s (lits ++ [eqLit a b]) ∧ termsOf (lits ++ [eqLit a b]) = termsOf lits ∧ numsOf s (lits ++ [eqLit a b]) = numsOf s lits:=by
 refine h.more (fit_eq ha hb (h.num a ha) (h.num b hb)) fun t ht=>?_
 rw [terms_eqLit] at ht
 simp only [List.mem_cons,List.not_mem_nil,or_false] at ht
 rcases ht with rfl | rfl
 ·exact nums_sub _ ha
 ·exact nums_sub _ hb
theorem GoodL.less {a b:Term} (ha:a ∈ numsOf s lits) (hb:b ∈ numsOf s lits) (hne:a ≠ b):GoodL s (lits ++ [lessLit a b]) ∧ termsOf (lits ++ [lessLit a b]) = termsOf lits ∧ numsOf s (lits ++ [lessLit a b]) = numsOf s lits:=by
 refine h.more (fit_less ha hb (h.num a ha) (h.num b hb) hne) fun t ht=>?_
 rcases terms_lessLit t ht with rfl | rfl
 ·exact nums_sub _ ha
 ·exact nums_sub _ hb
end
def linkStepS (nums:List Term) (c:List Nat) (e:EqD):List Nat:=if termIdx nums e.A < 0 then c else joinC c (placeN nums e.A) (placeN nums e.B)
def linksS (nums:List Term) (eqs:List EqD):List Nat:=eqs.foldl (linkStepS nums) (List.range nums.length)
def earlyRest (i k n:Nat):List (Nat × Nat):=(List.range' k (n - k)).map (fun k=>(i,k)) ++ earlyPairs (i + 1) n
theorem earlyRest_start {i n:Nat} (h:i < n):earlyPairs i n = earlyRest i (i + 1) n:=earlyPairs_step h
theorem earlyRest_step {i k n:Nat} (h:k < n):earlyRest i k n = (i,k) :: earlyRest i (k + 1) n:=by
 unfold earlyRest
 rw [range'_step h]; rfl
theorem earlyRest_end {i k n:Nat} (h:n ≤ k):earlyRest i k n = earlyPairs (i + 1) n:=by
 unfold earlyRest
 rw [range'_end h]; rfl
end Go.Mod
namespace Go.Mod
open Go.Eng
set_option maxRecDepth 100000
def firstG {α:Type} (p:α → Bool) (l:List α) (i:Nat):Option Nat:=(List.range' i (l.length - i)).find? fun i=>match l[i]? with | none=>false | some x=>p x
theorem firstAt_eq {α:Type} (p:α → Bool) (l:List α):firstAt p l = firstG p l 0:=by
 unfold firstAt firstG
 rw [List.range_eq_range',Nat.sub_zero]
 rfl
theorem firstG_step {α:Type} {p:α → Bool} {l:List α} {i:Nat} (h:i < l.length):firstG p l i = if p l[i] then some i else firstG p l (i + 1):=by
 unfold firstG
 rw [range'_step h,List.find?_cons,List.getElem?_eq_getElem h]
 cases hp:p l[i] <;> simp [hp]
theorem firstG_end {α:Type} {p:α → Bool} {l:List α} {i:Nat} (h:l.length ≤ i):firstG p l i = none:=by
 unfold firstG
 rw [range'_end h]; rfl
def atI:Option Nat → Int
 | none=>-1
 | some n=>n
def told (lits:List LitD) (l:LitD):Bool:=lits.any fun x=>(x.no == l.no) && decide (x.atom = l.atom)
def toldG (lits:List LitD) (l:LitD) (i:Nat):Bool:=(lits.drop i).any fun x=>(x.no == l.no) && decide (x.atom = l.atom)
def openP (have_:Bool) (terms nums:List Term) (c:List Nat) (lits:List LitD) (i k:Nat):Bool:=!linked nums lits i k && (if have_ then sameCl terms c (nums.getD i term0) (nums.getD k term0) else (!states nums lits i k && !states nums lits k i))
def cKnow (terms nums:List Term) (eqs:List EqD) (c:List Nat):List D:=[.lst (rowsT terms),.lst (rowsT nums),.lst (rowsEq eqs),.lst (rowsN c)]
attribute [go_sem] cKnow
def putRowS (rows:List Row) (r:Row):List Row:=
 match rows.dropWhile fun x=>rowLess x r with
 | []=>rows.takeWhile (fun x=>rowLess x r) ++ [r]
 | x :: xs=>if x.name = r.name ∧ x.args = r.args then rows else rows.takeWhile (fun x=>rowLess x r) ++ r :: x :: xs
theorem mem_putRow {rows:List Row} {r x:Row} (h:x ∈ putRow rows r):x ∈ rows ∨ x = r:=by
 unfold putRow at h
 have hs1:∀ x ∈ rows.takeWhile (fun x=>decide (cmpRow x r < 0)),x ∈ rows:=fun x hx=>(List.takeWhile_sublist _).subset hx
 have hs2:∀ x ∈ rows.dropWhile (fun x=>decide (cmpRow x r < 0)),x ∈ rows:=fun x hx=>(List.dropWhile_sublist _).subset hx
 simp only at h
 split at h
 ·rcases List.mem_append.1 h with h | h
  ·exact .inl (hs1 _ h)
  ·exact .inr (by simpa using h)
 ·rename_i y ys hd
  rw [hd] at hs2
  split at h
  ·exact .inl h
  ·rcases List.mem_append.1 h with h | h
   ·exact .inl (hs1 _ h)
   ·rcases List.mem_cons.1 h with h | h
    ·exact .inr h
    ·exact .inl (hs2 _ h)
theorem putRow_len (rows:List Row) (r:Row):(putRow rows r).length ≤ rows.length + 1:=by
 unfold putRow
 have h:=congrArg List.length (List.takeWhile_append_dropWhile (p:=fun x=>decide (cmpRow x r < 0)) (l:=rows))
 rw [List.length_append] at h
 simp only
 split
 ·rename_i hd
  rw [hd] at h
  simp at h ⊢
  omega
 ·rename_i y ys hd
  rw [hd] at h
  split
  ·omega
  ·simp at h ⊢
   omega
def WhileI (p:Row → Bool) (rows:List Row) (i:Nat):Prop:=rows.takeWhile p = rows.take i ++ (rows.drop i).takeWhile p ∧ rows.dropWhile p = (rows.drop i).dropWhile p
theorem WhileI.zero (p:Row → Bool) (rows:List Row):WhileI p rows 0:=⟨by simp,by simp⟩
theorem WhileI.step {p:Row → Bool} {rows:List Row} {i:Nat} (h:WhileI p rows i) (hi:i < rows.length) (hp:p rows[i] = true):WhileI p rows (i + 1):=by
 obtain ⟨h1,h2⟩:=h
 rw [List.drop_eq_getElem_cons hi] at h1 h2
 rw [List.takeWhile_cons,if_pos hp] at h1
 rw [List.dropWhile_cons,if_pos hp] at h2
 refine ⟨?_,h2⟩
 rw [h1,List.take_add_one,List.getElem?_eq_getElem hi,List.append_assoc]
 rfl
theorem WhileI.stop {p:Row → Bool} {rows:List Row} {i:Nat} (h:WhileI p rows i) (hi:i < rows.length) (hp:p rows[i] = false):rows.takeWhile p = rows.take i ∧ rows.dropWhile p = rows[i] :: rows.drop (i + 1):=by
 obtain ⟨h1,h2⟩:=h
 rw [List.drop_eq_getElem_cons hi] at h1 h2
 rw [List.takeWhile_cons,if_neg (by rw [hp]; simp),List.append_nil] at h1
 rw [List.dropWhile_cons,if_neg (by rw [hp]; simp)] at h2
 exact ⟨h1,h2⟩
theorem WhileI.done {p:Row → Bool} {rows:List Row} {i:Nat} (h:WhileI p rows i) (hi:rows.length ≤ i):rows.takeWhile p = rows ∧ rows.dropWhile p = []:=by
 obtain ⟨h1,h2⟩:=h
 rw [List.drop_of_length_le hi] at h1 h2
 rw [List.take_of_length_le hi] at h1
 exact ⟨by simpa using h1,h2⟩
theorem valTm_ok {terms nums:List Term} {c:List Nat} {vals:List Rat} {t:Term} (hc:∀ x ∈ c,x ≤ 1000) (hv:∀ x ∈ vals,ratOk x = true):ratOk (valTm terms nums c vals t) = true:=by
 have hle:cl c (placeN terms t) ≤ 1000:=by
  rcases Nat.lt_or_ge (placeN terms t) c.length with h1 | h1
  ·exact hc _ (cl_mem h1)
  ·rw [cl_ge h1]; omega
 unfold valTm
 split
 ·exact whole_ok (by omega) (by omega)
 ·rcases Nat.lt_or_ge (placeN nums t) vals.length with h1 | h1
  ·exact hv _ (getD_mem h1)
  ·rw [List.getD_eq_getElem?_getD,List.getElem?_eq_none h1]
   exact whole_ok (by omega) (by omega)
theorem rowVals_ok {terms nums:List Term} {c:List Nat} {vals:List Rat} {t:Term} (hc:∀ x ∈ c,x ≤ 1000) (hv:∀ x ∈ vals,ratOk x = true):ratsOk (rowVals terms nums c vals t).args = true:=by
 unfold ratsOk
 refine List.all_eq_true.2 fun x hx=>?_
 simp only [rowVals,List.mem_map] at hx
 obtain ⟨k,_,rfl⟩:=hx
 exact valTm_ok hc hv
theorem far_vals {list:List Lin} (h:(farRun list).code = 0):(farRun list).vals.length = 4 ∧ ∀ x ∈ (farRun list).vals,ratOk x = true:=by
 have hall:∀ v,farAll list v = true → v.length = 4 ∧ ∀ x ∈ v,ratOk x = true:=fun v hv=>by
  simp only [farAll,isAsg,Bool.and_eq_true,decide_eq_true_eq,List.all_eq_true] at hv
  exact hv.2.1
 have hend:∀ s0 s1 s2 s3 rows,(farEnd list s0 s1 s2 s3 rows).code = 0 → (farEnd list s0 s1 s2 s3 rows).vals.length = 4 ∧ ∀ x ∈ (farEnd list s0 s1 s2 s3 rows).vals,ratOk x = true:=fun s0 s1 s2 s3 rows h=>by
  unfold farEnd at h ⊢
  split at h
  ·split at h <;> simp at h
  ·split at h
   ·simp at h
   ·split at h
    ·rename_i hf
     rw [if_pos hf]
     exact hall _ hf
    ·simp at h
 unfold farRun at h ⊢
 split at h
 ·rename_i hs
  rw [if_pos hs]
  split at h
  ·simp at h
  ·split at h
   ·simp at h
   ·split at h
    ·simp at h
    ·split at h
     ·simp at h
     ·exact hend _ _ _ _ _ h
 ·simp at h
end Go.Mod
namespace Go.Mod
open Go.Eng
set_option maxRecDepth 100000
theorem isTerm_kids {t:Term} (h:isTerm t = true):t.kids.length ≤ 2:=by
 have h1:=isTerm_tShape h
 cases t with
 | mk n ks=>
   simp only [tShape,Bool.and_eq_true,decide_eq_true_eq] at h1
   exact h1.2.1
theorem atomWf_times {a:Atom} (h:atomWf a = true):a.times.length ≤ 4:=by
 rcases Classical.em (a.kind = 1) with h1 | h1
 ·simp only [atomWf,if_pos h1,Bool.and_eq_true,decide_eq_true_eq] at h
  omega
 ·rcases Classical.em (a.kind = 2) with h2 | h2
  ·have:=atomWf_sum h h2
   omega
  ·simp [atomWf,h1,h2] at h
section
variable {s:Sig} {lits:List LitD} (h:GoodL s lits)
include h
theorem GoodL.kids9:∀ t ∈ termsOf lits,t.kids.length ≤ 1000:=fun t ht=>by
 have:=isTerm_kids (h.term t ht)
 omega
theorem GoodL.len9:(termsOf lits).length ≤ 1000:=by
 have:=h.n24
 omega
theorem GoodL.eqsIn:∀ e ∈ eqsOf lits,e.A ∈ termsOf lits ∧ e.B ∈ termsOf lits:=fun e he=>⟨(h.eqs e he).1,(h.eqs e he).2.1⟩
theorem GoodL.clLen:(closed (termsOf lits) (eqsOf lits)).1.length = (termsOf lits).length:=kept_len (closed_kept h.eqsIn)
theorem GoodL.clBound:∀ x ∈ (closed (termsOf lits) (eqsOf lits)).1,x ≤ 1000:=by
 have hk:=closed_kept h.eqsIn
 have h1:=kept_steps hk _ (Nat.le_refl _)
 rw [← hk.2] at h1
 intro x hx
 have h2:=le_sum hx
 have h3:(List.range (termsOf lits).length).sum ≤ (List.range (termsOf lits).length).length * 23:=sum_bound fun x hx=>by
  have:=List.mem_range.1 hx
  have:=h.n24
  omega
 have h4:(List.range (termsOf lits).length).length * 23 ≤ 24 * 23:=Nat.mul_le_mul_right _ (by simpa using h.n24)
 omega
theorem GoodL.eqKind:∀ l ∈ lits,l.atom.kind = 1 → l.atom.A ∈ termsOf lits ∧ l.atom.B ∈ termsOf lits:=fun l hl hk=>by
 have hm:atomTerms l.atom = [l.atom.A,l.atom.B]:=by simp [atomTerms,hk]
 exact ⟨h.has l hl _ (by rw [hm]; simp),h.has l hl _ (by rw [hm]; simp)⟩
end
theorem openP_isOpen {terms nums:List Term} {c:List Nat} {lits:List LitD} {i k:Nat} (h:openP false terms nums c lits i k = true):isOpen nums lits i k = true:=h
theorem openP_linked {v:Bool} {terms nums:List Term} {c:List Nat} {lits:List LitD} {i k:Nat} (h:openP v terms nums c lits i k = true):linked nums lits i k = false:=by
 unfold openP at h
 cases hl:linked nums lits i k
 ·rfl
 ·rw [hl] at h; simp at h
def Next (s:Sig) (lits:List LitD) (l:LitD):Prop:=GoodL s (lits ++ [l]) ∧ termsOf (lits ++ [l]) = termsOf lits ∧ numsOf s (lits ++ [l]) = numsOf s lits ∧ room (numsOf s lits) (lits ++ [l]) < room (numsOf s lits) lits
theorem next_eq {s:Sig} {lits:List LitD} (h:GoodL s lits) {i k:Nat} (h1:i < k) (h2:k < (numsOf s lits).length) (hl:linked (numsOf s lits) lits i k = false):Next s lits (eqLit ((numsOf s lits).getD i term0) ((numsOf s lits).getD k term0)):=by
 obtain ⟨g1,g2,g3⟩:=h.eq (a:=(numsOf s lits).getD i term0) (b:=(numsOf s lits).getD k term0) (getD_mem (by omega)) (getD_mem h2)
 exact ⟨g1,g2,g3,room_eq h.numNodup h1 h2 hl⟩
theorem nums_ne {s:Sig} {lits:List LitD} (h:GoodL s lits) {i k:Nat} (h1:i < k) (h2:k < (numsOf s lits).length):(numsOf s lits).getD i term0 ≠ (numsOf s lits).getD k term0:=fun e=>by
 have a1:=placeN_get h.numNodup (by omega:i < (numsOf s lits).length)
 have a2:=placeN_get h.numNodup h2
 rw [getD_term (by omega),getD_term h2] at e
 rw [e] at a1
 omega
theorem next_less {s:Sig} {lits:List LitD} (h:GoodL s lits) {i k:Nat} (h1:i < k) (h2:k < (numsOf s lits).length) (hl:isOpen (numsOf s lits) lits i k = true):Next s lits (lessLit ((numsOf s lits).getD i term0) ((numsOf s lits).getD k term0)) ∧ Next s lits (lessLit ((numsOf s lits).getD k term0) ((numsOf s lits).getD i term0)):=by
 have hne:=nums_ne h h1 h2
 have hi:=getD_mem (d:=term0) (by omega:i < (numsOf s lits).length)
 have hk:=getD_mem (d:=term0) h2
 obtain ⟨g1,g2,g3⟩:=h.less hi hk hne
 obtain ⟨f1,f2,f3⟩:=h.less hk hi (Ne.symm hne)
 exact ⟨⟨g1,g2,g3,room_less h1 h2 hl (.inl rfl)⟩,⟨f1,f2,f3,room_less h1 h2 hl (.inr rfl)⟩⟩
theorem next_parted {s:Sig} {lits:List LitD} (h:GoodL s lits) {i k:Nat} (h1:i < k) (h2:k < (numsOf s lits).length) (hl:isOpen (numsOf s lits) lits i k = true):∀ l ∈ parted ((numsOf s lits).getD i term0) ((numsOf s lits).getD k term0),Next s lits l:=by
 have hlk:linked (numsOf s lits) lits i k = false:=openP_linked (v:=false) (terms:=[]) (c:=[]) hl
 obtain ⟨n1,n2⟩:=next_less h h1 h2 hl
 intro l hm
 simp only [parted,List.mem_cons,List.not_mem_nil,or_false] at hm
 rcases hm with rfl | rfl | rfl
 ·exact next_eq h h1 h2 hlk
 ·exact n1
 ·exact n2
theorem partC_step {run:List LitD → Both} {a b:Term} {l:List LitD} {ls:List (List LitD)} {out:List Case}:partC run a b (l :: ls) out = if (run l).code = 1 then partC run a b ls (out ++ [(run l).case]) else ⟨(run l).model,case0,(run l).code⟩:=rfl
theorem partC_end {run:List LitD → Both} {a b:Term} {out:List Case}:partC run a b [] out = ⟨model0,.mk 4 0 why0 [] a b out,1⟩:=rfl
section
variable {s:Sig} {terms nums:List Term} {f:Nat} {lits:List LitD}
theorem run_much (h:12 < (eqsOf lits).length):runF s terms nums (f + 1) lits = much:=by
 simp only [runF,if_pos h]
variable (h:¬ 12 < (eqsOf lits).length)
include h
theorem run_clash {n:Nat} (hc:firstAt (clashes terms (closed terms (eqsOf lits)).1) lits = some n):runF s terms nums (f + 1) lits = ⟨model0,.mk 1 n (explained terms (closed terms (eqsOf lits)).2 (lits.getD n lit0).atom.A (lits.getD n lit0).atom.B) [] term0 term0 [],1⟩:=by
 simp only [runF,if_neg h,hc]
variable (hc:firstAt (clashes terms (closed terms (eqsOf lits)).1) lits = none)
include hc
theorem run_far1 (hf:(farRun (linsOf nums lits)).code = 1):runF s terms nums (f + 1) lits = ⟨model0,.mk 2 0 why0 (farRun (linsOf nums lits)).times term0 term0 [],1⟩:=by
 simp only [runF,if_neg h,hc,if_pos hf]
theorem run_far2 (hf:(farRun (linsOf nums lits)).code ≠ 1) (hf2:(farRun (linsOf nums lits)).code ≠ 0):runF s terms nums (f + 1) lits = much:=by
 simp only [runF,if_neg h,hc,if_neg hf,if_pos hf2]
variable (hf:(farRun (linsOf nums lits)).code = 0)
include hf
theorem run_have {q:Nat × Nat} (hp:firstPair nums.length (openP true terms nums (closed terms (eqsOf lits)).1 lits) = some q):runF s terms nums (f + 1) lits = haveC (explained terms (closed terms (eqsOf lits)).2 (nums.getD q.1 term0) (nums.getD q.2 term0)) (runF s terms nums f (lits ++ [eqLit (nums.getD q.1 term0) (nums.getD q.2 term0)])):=by
 have hp':firstPair nums.length (fun i k=>!linked nums lits i k && sameCl terms (closed terms (eqsOf lits)).1 (nums.getD i term0) (nums.getD k term0)) = some q:=hp
 have h1:¬ (farRun (linsOf nums lits)).code = 1:=by omega
 simp only [runF,if_neg h,hc,if_neg h1,hf,ne_eq,not_true_eq_false,if_false,hp']
 rw [if_neg (by decide)]
variable (hp:firstPair nums.length (openP true terms nums (closed terms (eqsOf lits)).1 lits) = none)
include hp
theorem run_part {q:Nat × Nat} (hq:firstPair nums.length (openP false terms nums (closed terms (eqsOf lits)).1 lits) = some q):runF s terms nums (f + 1) lits = partC (runF s terms nums f) (nums.getD q.1 term0) (nums.getD q.2 term0) ((parted (nums.getD q.1 term0) (nums.getD q.2 term0)).map fun l=>lits ++ [l]) []:=by
 have hp':firstPair nums.length (fun i k=>!linked nums lits i k && sameCl terms (closed terms (eqsOf lits)).1 (nums.getD i term0) (nums.getD k term0)) = none:=hp
 have hq':firstPair nums.length (fun i k=>!linked nums lits i k && (!states nums lits i k && !states nums lits k i)) = some q:=hq
 have h1:¬ (farRun (linsOf nums lits)).code = 1:=by omega
 simp only [runF,if_neg h,hc,if_neg h1,hf,ne_eq,not_true_eq_false,if_false,hp',hq']
 rw [if_neg (by decide)]
variable (hq:firstPair nums.length (openP false terms nums (closed terms (eqsOf lits)).1 lits) = none)
include hq
theorem run_model:runF s terms nums (f + 1) lits = if modelAll s ⟨modelRows terms nums (closed terms (eqsOf lits)).1 (farRun (linsOf nums lits)).vals⟩ lits = true then ⟨⟨modelRows terms nums (closed terms (eqsOf lits)).1 (farRun (linsOf nums lits)).vals⟩,case0,0⟩ else much:=by
 have hp':firstPair nums.length (fun i k=>!linked nums lits i k && sameCl terms (closed terms (eqsOf lits)).1 (nums.getD i term0) (nums.getD k term0)) = none:=hp
 have hq':firstPair nums.length (fun i k=>!linked nums lits i k && (!states nums lits i k && !states nums lits k i)) = none:=hq
 have h1:¬ (farRun (linsOf nums lits)).code = 1:=by omega
 simp only [runF,if_neg h,hc,if_neg h1,hf,ne_eq,not_true_eq_false,if_false,hp',hq']
 rw [if_neg (by decide)]
end
end Go.Mod
namespace Go.Mod
open Go.Eng
set_option maxRecDepth 100000
def cEdge (e:Edge):List D:=[.val (.int .i64 (e.step:Int)),.val (.bool e.back)]
def rowsEdge (l:List Edge):List (List D):=l.map cEdge
theorem rowsEdge_len (l:List Edge):(rowsEdge l).length = l.length:=by simp [rowsEdge]
theorem rowsEdge_row {l:List Edge} {i:Nat} (h:i < l.length):row (rowsEdge l) i = cEdge l[i]:=by simp [rowsEdge,row,List.getD,List.getElem?_eq_getElem h]
theorem rowsEdge_all (l:List Edge):∀ y ∈ rowsEdge l,y.length = 2:=by
 intro y hy
 obtain ⟨t,_,rfl⟩:=List.mem_map.1 hy
 rfl
theorem rowsEdge_app (a b:List Edge):rowsEdge a ++ rowsEdge b = rowsEdge (a ++ b):=by simp [rowsEdge]
theorem rowsEdge_nil:rowsEdge [] = []:=rfl
theorem rowsEdge_cons (n:Edge) (l:List Edge):rowsEdge (n :: l) = cEdge n :: rowsEdge l:=rfl
theorem rowsEdge_set {l:List Edge} {i:Nat} {e:Edge}:(rowsEdge l).set i (cEdge e) = rowsEdge (l.set i e):=by simp [rowsEdge,List.map_set]
attribute [go_sem] rowsEdge_len rowsEdge_row rowsEdge_nil cEdge
structure RevI {α:Type} (l ys:List α) (i:Nat):Prop where
 len:ys.length = l.length
 at_:∀ k,k < l.length → ys[k]? = if k < i ∨ l.length - 1 - k < i then l[l.length - 1 - k]? else l[k]?
theorem RevI.zero {α:Type} (l:List α):RevI l l 0:=⟨rfl,fun k _=>by simp⟩
theorem RevI.step {α:Type} {l ys:List α} {i j:Nat} (h:RevI l ys i) (hij:i < j) (hj:i + j + 1 = l.length) (hi':i < ys.length) (hj':j < ys.length):RevI l ((ys.set i ys[j]).set j ys[i]) (i + 1):=by
 have hlen:=h.len
 refine ⟨by simp [hlen],fun k hk=>?_⟩
 have e1:ys[j]? = some ys[j]:=List.getElem?_eq_getElem hj'
 have e2:ys[i]? = some ys[i]:=List.getElem?_eq_getElem hi'
 have a1:=h.at_ j (by omega)
 have a2:=h.at_ i (by omega)
 have a3:=h.at_ k hk
 rw [if_neg (by omega)] at a1 a2
 rw [e1] at a1
 rw [e2] at a2
 rcases Nat.lt_trichotomy k j with h1 | h1 | h1
 ·rw [List.getElem?_set_ne (by omega)]
  rcases Classical.em (k = i) with h2 | h2
  ·subst h2
   rw [List.getElem?_set_self hi',if_pos (.inl (by omega)),a1]
   congr 1
   omega
  ·rw [List.getElem?_set_ne (by omega),a3]
   rcases Classical.em (k < i ∨ l.length - 1 - k < i) with h3 | h3
   ·rw [if_pos h3,if_pos (by omega)]
   ·rw [if_neg h3,if_neg (by omega)]
 ·subst h1
  rw [List.getElem?_set_self (by simpa using hj'),if_pos (.inr (by omega)),a2]
  congr 1
  omega
 ·rw [List.getElem?_set_ne (by omega),List.getElem?_set_ne (by omega),a3,if_pos (by omega),if_pos (by omega)]
theorem RevI.done {α:Type} {l ys:List α} {i:Nat} (h:RevI l ys i) (hi:l.length ≤ 2 * i + 1):ys = l.reverse:=by
 apply List.ext_getElem?
 intro k
 rcases Nat.lt_or_ge k l.length with h1 | h1
 ·rw [h.at_ k h1,List.getElem?_reverse h1]
  rcases Classical.em (k < i ∨ l.length - 1 - k < i) with h2 | h2
  ·rw [if_pos h2]
  ·rw [if_neg h2]
   congr 1
   omega
 ·rw [List.getElem?_eq_none (by rw [h.len]; exact h1),List.getElem?_eq_none (by simpa using h1)]
def metM (disc:List (Nat × Edge)):List (Int × Value):=(fsts disc).map fun (v:Nat)=>((v:Int),Value.bool true)
def beforeM (disc:List (Nat × Edge)):List (Int × Value):=(disc.drop 1).map fun p=>((p.1:Int),Value.agg #[.int .i64 (p.2.step:Int),.bool p.2.back])
theorem metM_app (a b:List (Nat × Edge)):metM (a ++ b) = metM a ++ metM b:=by simp [metM,fsts]
theorem beforeM_app {a:List (Nat × Edge)} {p:Nat × Edge} (h:0 < a.length):beforeM (a ++ [p]) = beforeM a ++ [((p.1:Int),Value.agg #[.int .i64 (p.2.step:Int),.bool p.2.back])]:=by
 unfold beforeM
 rw [List.drop_append_of_le_length (by omega),List.map_append]
 rfl
theorem mapGet_in:∀ {l:List Nat} {n:Nat},n ∈ l → mapGet (l.map fun (v:Nat)=>((v:Int),Value.bool true)) (n:Int) = some (.bool true)
 | v :: l,n,h=>by
   simp only [List.map_cons,mapGet]
   rcases Classical.em ((n:Int) = (v:Int)) with h1 | h1
   ·rw [if_pos h1]
   ·rw [if_neg h1]
    rcases List.mem_cons.1 h with h | h
    ·exact absurd (by rw [h]) h1
    ·exact mapGet_in h
theorem mapGet_out:∀ {l:List Nat} {n:Nat},n ∉ l → mapGet (l.map fun (v:Nat)=>((v:Int),Value.bool true)) (n:Int) = none
 | [],_,_=>rfl
 | v :: l,n,h=>by
   simp only [List.map_cons,mapGet]
   rw [if_neg (fun e=>h (by simp [show n = v by omega]))]
   exact mapGet_out fun h1=>h (List.mem_cons_of_mem _ h1)
theorem mapGet_met {disc:List (Nat × Edge)} {n:Nat} (h:n ∈ fsts disc):mapGet (metM disc) (n:Int) = some (.bool true):=mapGet_in h
theorem mapGet_unmet {disc:List (Nat × Edge)} {n:Nat} (h:n ∉ fsts disc):mapGet (metM disc) (n:Int) = none:=mapGet_out h
theorem mapGet_pairs:∀ {l:List (Nat × Edge)} {j:Nat} {v:Nat} {e:Edge},(l.map Prod.fst).Nodup → l[j]? = some (v,e) → mapGet (l.map fun p=>((p.1:Int),Value.agg #[.int .i64 (p.2.step:Int),.bool p.2.back])) (v:Int) = some (.agg #[.int .i64 (e.step:Int),.bool e.back])
 | [],j,v,e,_,h=>by simp at h
 | p :: l,0,v,e,_,h=>by
   simp only [List.getElem?_cons_zero,Option.some.injEq] at h
   subst h
   simp [mapGet]
 | p :: l,j + 1,v,e,hn,h=>by
   simp only [List.getElem?_cons_succ] at h
   simp only [List.map_cons,List.nodup_cons] at hn
   have hm:v ∈ l.map Prod.fst:=List.mem_map.2 ⟨(v,e),List.mem_of_getElem? h,rfl⟩
   simp only [List.map_cons,mapGet]
   rw [if_neg (fun e1=>hn.1 (by rw [show p.1 = v by omega]; exact hm))]
   exact mapGet_pairs hn.2 h
theorem mapGet_before {disc:List (Nat × Edge)} (hn:(fsts disc).Nodup) {j v:Nat} {e:Edge} (hj:0 < j) (h:disc[j]? = some (v,e)):mapGet (beforeM disc) (v:Int) = some (.agg #[.int .i64 (e.step:Int),.bool e.back]):=by
 refine mapGet_pairs (j:=j - 1) ?_ ?_
 ·rw [List.map_drop]
  exact hn.sublist (List.drop_sublist _ _)
 ·rw [List.getElem?_drop,show 1 + (j - 1) = j by omega]
  exact h
theorem mapGet_before_none {disc:List (Nat × Edge)} {n:Nat} (h:n ∉ fsts disc):mapGet (beforeM disc) (n:Int) = none:=by
 have key:∀ {l:List (Nat × Edge)},(∀ p ∈ l,p.1 ≠ n) → mapGet (l.map fun p=>((p.1:Int),Value.agg #[.int .i64 (p.2.step:Int),.bool p.2.back])) (n:Int) = none:=by
  intro l
  induction l with
  | nil=>intro _; rfl
  | cons p l ih=>
    intro hl
    simp only [List.map_cons,mapGet]
    rw [if_neg (fun e=>hl p (by simp) (by omega))]
    exact ih fun q hq=>hl q (List.mem_cons_of_mem _ hq)
 refine key fun p hp e=>h ?_
 rw [← e]
 exact List.mem_map.2 ⟨p,List.mem_of_mem_drop hp,rfl⟩
def SeenTo (steps:List Step) (k:Nat) (disc:List (Nat × Edge)) (v:Nat):Prop:=∀ j,j < k → (vA steps j = v → vB steps j ∈ fsts disc) ∧ (vB steps j = v → vA steps j ∈ fsts disc)
theorem seenTo_zero (steps:List Step) (disc:List (Nat × Edge)) (v:Nat):SeenTo steps 0 disc v:=fun j hj=>by omega
theorem seenTo_all {steps:List Step} {n:Nat} {disc:List (Nat × Edge)} {v:Nat} (h:SeenTo steps n disc v):Seen steps n disc v:=h
theorem seenTo_next {steps:List Step} {k:Nat} {disc:List (Nat × Edge)} {v:Nat} (h:SeenTo steps k disc v) (h1:vA steps k = v → vB steps k ∈ fsts disc) (h2:vB steps k = v → vA steps k ∈ fsts disc):SeenTo steps (k + 1) disc v:=fun j hj=>by
 rcases Nat.lt_or_ge j k with h3 | h3
 ·exact h j h3
 ·obtain rfl:j = k:=by omega
  exact ⟨h1,h2⟩
theorem seenTo_mono {steps:List Step} {k:Nat} {a b:List (Nat × Edge)} {v:Nat} (h:SeenTo steps k a v):SeenTo steps k (a ++ b) v:=seen_mono (n:=k) h
end Go.Mod
namespace Go.Mod
open Go.Eng
set_option maxRecDepth 100000
theorem while_cut:∀ (rs:List Row) (t:Row),rs.takeWhile (fun x=>decide (cmpRow x t < 0)) = rs.take (cut rs t) ∧ rs.dropWhile (fun x=>decide (cmpRow x t < 0)) = rs.drop (cut rs t)
 | [],_=>by simp [cut]
 | r :: rs,t=>by
   obtain ⟨h1,h2⟩:=while_cut rs t
   rcases Classical.em (cmpRow r t < 0) with h | h
   ·simp [cut,h,h1,h2]
   ·simp [cut,h]
theorem putRow_cut (rs:List Row) (t:Row):putRow rs t = if found rs t then rs else rs.take (cut rs t) ++ t :: rs.drop (cut rs t):=by
 obtain ⟨h1,h2⟩:=while_cut rs t
 unfold putRow found
 simp only [h1,h2]
 rcases Nat.lt_or_ge (cut rs t) rs.length with h | h
 ·rw [List.drop_eq_getElem_cons h,List.getElem?_eq_getElem h]
  rcases Classical.em (cmpRow rs[cut rs t] t = 0) with hc | hc
  ·simp [hc]
  ·simp [hc]
 ·rw [List.drop_of_length_le h,List.getElem?_eq_none h]
  simp
theorem ratLess_total {a b:Rat} (ha:ratOk a = true) (hb:ratOk b = true) (h:a ≠ b):ratLess a b = true ∨ ratLess b a = true:=by
 rw [ratLess_iff ha hb,ratLess_iff hb ha]
 have h1:a.N * b.D ≠ b.N * a.D:=fun e=>h (rat_cross ha hb e)
 omega
theorem ratsLess_total:∀ {as bs:List Rat},ratsOk as = true → ratsOk bs = true → as.length = bs.length → as ≠ bs → ratsLess as bs = true ∨ ratsLess bs as = true
 | [],[],_,_,_,h=>absurd rfl h
 | [],b :: bs,_,_,h,_=>by simp at h
 | a :: as,[],_,_,h,_=>by simp at h
 | a :: as,b :: bs,h1,h2,h3,h4=>by
   simp only [ratsOk,List.all_cons,Bool.and_eq_true] at h1 h2
   simp only [ratsLess]
   rcases Classical.em (a = b) with h | h
   ·rw [if_pos h,if_pos h.symm]
    exact ratsLess_total h1.2 h2.2 (by simpa using h3) fun e=>h4 (by rw [h,e])
   ·rw [if_neg h,if_neg (Ne.symm h)]
    exact ratLess_total h1.1 h2.1 h
theorem sLess_total {a b:Str} (h:a ≠ b):sLess a b = true ∨ sLess b a = true:=by
 cases h1:sLess a b
 ·cases h2:sLess b a
  ·exact absurd (cmpStr_zero.1 (by simp [cmpStr,h1,h2])) h
  ·exact .inr rfl
 ·exact .inl rfl
theorem rowLess_total {a b:Row} (ha:ratsOk a.args = true) (hb:ratsOk b.args = true) (h:¬ (a.name = b.name ∧ a.args = b.args)):rowLess a b = true ∨ rowLess b a = true:=by
 unfold rowLess
 rcases Classical.em (a.name = b.name) with h1 | h1
 ·rw [if_pos h1,if_pos h1.symm]
  rcases Classical.em (a.args.length = b.args.length) with h2 | h2
  ·rw [if_pos h2,if_pos h2.symm]
   exact ratsLess_total ha hb h2 fun e=>h ⟨h1,e⟩
  ·rw [if_neg h2,if_neg (Ne.symm h2)]
   rcases Nat.lt_or_ge a.args.length b.args.length with h3 | h3
   ·exact .inl (decide_eq_true h3)
   ·exact .inr (decide_eq_true (by omega))
 ·rw [if_neg h1,if_neg (Ne.symm h1)]
  exact sLess_total h1
theorem mono_pair {rs:List Row} {t:Row} (h1:∀ r ∈ rs,ratsOk r.args = true) (h2:rs.Pairwise (fun a b=>rowLess a b = true)) (ht:ratsOk t.args = true):Mono rs t:=by
 refine List.Pairwise.imp_of_mem ?_ h2
 intro a b ha hb hab hbt
 have wa:=h1 a ha
 have wb:=h1 b hb
 rw [cmpRow_neg wb ht] at hbt
 rw [cmpRow_neg wa ht]
 exact rowLess_trans wa wb ht hab hbt
theorem putRow_pair {rs:List Row} {t:Row} (h1:∀ r ∈ rs,ratsOk r.args = true) (h2:rs.Pairwise (fun a b=>rowLess a b = true)) (ht:ratsOk t.args = true):(putRow rs t).Pairwise (fun a b=>rowLess a b = true):=by
 have hm:=mono_pair h1 h2 ht
 have hc:=fun k h=>cut_iff hm k h
 rw [putRow_cut]
 cases hf:found rs t
 ·rw [if_neg (by simp)]
  have hsplit:=h2
  rw [← List.take_append_drop (cut rs t) rs] at hsplit
  obtain ⟨p1,p2,p3⟩:=List.pairwise_append.1 hsplit
  have hlo:∀ x ∈ rs.take (cut rs t),rowLess x t = true:=fun x hx=>by
   obtain ⟨k,hk,rfl⟩:=List.mem_iff_getElem.1 hx
   have hk2:k < cut rs t:=by rw [List.length_take] at hk; omega
   have hk3:k < rs.length:=by rw [List.length_take] at hk; omega
   rw [List.getElem_take]
   exact (cmpRow_neg (h1 _ (List.getElem_mem hk3)) ht).1 ((hc k hk3).1 hk2)
  have hhi:∀ y ∈ rs.drop (cut rs t),rowLess t y = true:=fun y hy=>by
   rcases Nat.lt_or_ge (cut rs t) rs.length with h | h
   ·have w0:=h1 _ (List.getElem_mem h)
    have n1:¬ cmpRow rs[cut rs t] t < 0:=fun e=>by
     have:=(hc _ h).2 e
     omega
    have n2:cmpRow rs[cut rs t] t ≠ 0:=fun e=>by
     rw [found,List.getElem?_eq_getElem h] at hf
     simp [e] at hf
    have h0:rowLess t rs[cut rs t] = true:=by
     rcases rowLess_total w0 ht (fun e=>n2 ((cmpRow_zero w0 ht).2 e)) with h3 | h3
     ·exact absurd ((cmpRow_neg w0 ht).2 h3) n1
     ·exact h3
    rw [List.drop_eq_getElem_cons h] at hy p2
    rcases List.mem_cons.1 hy with rfl | hy2
    ·exact h0
    ·exact rowLess_trans ht w0 (h1 _ (List.mem_of_mem_drop hy2)) h0 ((List.pairwise_cons.1 p2).1 y hy2)
   ·rw [List.drop_of_length_le h] at hy
    simp at hy
  refine List.pairwise_append.2 ⟨p1,List.pairwise_cons.2 ⟨hhi,p2⟩,fun x hx y hy=>?_⟩
  rcases List.mem_cons.1 hy with rfl | hy
  ·exact hlo x hx
  ·exact p3 x hx y hy
 ·rw [if_pos rfl]
  exact h2
end Go.Mod
namespace Go.Mod
open Go.Eng
set_option maxRecDepth 100000
def litV (b:List Int) (s:Sig) (p:Int):LitD × Int:=(⟨(anyA b s p).1,decide (pickV b (anyA b s p).2 3 = 0)⟩,(anyA b s p).2 + 1)
theorem litV_b {b:List Int} (hb:OkB b) {s:Sig} (h:SigFair s) {p:Int} (hp:0 ≤ p):p ≤ (litV b s p).2 ∧ (litV b s p).2 ≤ p + 61:=by
 have h1:=anyA_b hb h hp
 simp only [litV]
 omega
def litsV (b:List Int) (s:Sig):Nat → List LitD → Int → List LitD × Int
 | 0,out,p=>(out,p)
 | n + 1,out,p=>litsV b s n (if bothOk s (out ++ [(litV b s p).1]) then out ++ [(litV b s p).1] else out) (litV b s p).2
def moreV (b:List Int) (s:Sig):Nat → List LitD → Int → List LitD × Int
 | 0,out,p=>(out,p)
 | n + 1,out,p=>moreV b s n (out ++ [(litV b s p).1]) (litV b s p).2
def listV (b:List Int) (s:Sig) (p:Int):List LitD × Int:=litsV b s (numV b p [3,4,5,2,6,1,0]).toNat [] (p + 1)
def some8 (b:List Int) (p:Int):Sig × List LitD × Int:=
 let g:=sigS b p
 let r:=listV b g.1 g.2
 let k:=pickV b r.2 48
 if k = 0 then (g.1,r.1 ++ [⟨(someA b g.1 (r.2 + 1)).1,false⟩],(someA b g.1 (r.2 + 1)).2) else
 if k = 1 then (g.1,(moreV b g.1 (7 - r.1.length) r.1 (r.2 + 1)).1,(moreV b g.1 (7 - r.1.length) r.1 (r.2 + 1)).2) else
 if k = 2 then ((bentS b (bentS b g.1 (r.2 + 1)).1 (bentS b g.1 (r.2 + 1)).2).1,r.1,(bentS b (bentS b g.1 (r.2 + 1)).1 (bentS b g.1 (r.2 + 1)).2).2) else
 if k = 3 then (g.1,r.1 ++ [lit0],r.2 + 1) else (g.1,r.1,r.2 + 1)
def draw8 (b:List Int):Sig × List LitD:=((some8 b 0).1,(some8 b 0).2.1)
theorem litsV_b {b:List Int} (hb:OkB b) {s:Sig} (h:SigFair s):∀ (n:Nat) (out:List LitD) (p:Int),0 ≤ p → p ≤ (litsV b s n out p).2 ∧ (litsV b s n out p).2 ≤ p + n * 61 ∧ (litsV b s n out p).1.length ≤ out.length + n
 | 0,out,p,_=>by simp [litsV]
 | n + 1,out,p,hp=>by
   have h1:=litV_b hb h hp
   have h2:=litsV_b hb h n (if bothOk s (out ++ [(litV b s p).1]) then out ++ [(litV b s p).1] else out) (litV b s p).2 (by omega)
   have h3:(if bothOk s (out ++ [(litV b s p).1]) then out ++ [(litV b s p).1] else out).length ≤ out.length + 1:=by
    split
    ·simp
    ·omega
   simp only [litsV]
   omega
theorem listV_b {b:List Int} (hb:OkB b) {s:Sig} (h:SigFair s) {p:Int} (hp:0 ≤ p):p ≤ (listV b s p).2 ∧ (listV b s p).2 ≤ p + 500 ∧ (listV b s p).1.length ≤ 6:=by
 have hm:=numV_mem hb (p:=p) (l:=[3,4,5,2,6,1,0]) hp (by simp)
 simp only [List.mem_cons,List.not_mem_nil,or_false] at hm
 have hk:(numV b p [3,4,5,2,6,1,0]).toNat ≤ 6:=by omega
 have:=litsV_b hb h (numV b p [3,4,5,2,6,1,0]).toNat [] (p + 1) (by omega)
 simp only [listV]
 simp only [List.length_nil] at this
 omega
end Go.Mod
namespace Go.Mod
open Go.Eng
set_option maxRecDepth 100000
theorem modelAll_app {s:Sig} {m:Model} {a c:List LitD} (h:modelAll s m (a ++ c) = true):modelAll s m a = true:=by
 simp only [modelAll,List.all_append,Bool.and_eq_true] at h ⊢
 exact ⟨h.1,h.2.1⟩
theorem partC_yes {run:List LitD → Both} {a b:Term}:∀ {ls:List (List LitD)} {out:List Case},(partC run a b ls out).code = 0 → ∃ l ∈ ls,(run l).code = 0 ∧ (partC run a b ls out).model = (run l).model
 | [],out,h=>by rw [partC_end] at h; simp at h
 | l :: ls,out,h=>by
   rw [partC_step] at h ⊢
   rcases Classical.em ((run l).code = 1) with h1 | h1
   ·rw [if_pos h1] at h ⊢
    obtain ⟨x,hx,h2,h3⟩:=partC_yes h
    exact ⟨x,List.mem_cons_of_mem _ hx,h2,h3⟩
   ·rw [if_neg h1] at h ⊢
    exact ⟨l,by simp,h,rfl⟩
theorem partC_kind {run:List LitD → Both} {a b:Term}:∀ {ls:List (List LitD)} {out:List Case},(partC run a b ls out).code = 1 → (partC run a b ls out).case.kind = 4
 | [],out,h=>by rw [partC_end]; rfl
 | l :: ls,out,h=>by
   rw [partC_step] at h ⊢
   rcases Classical.em ((run l).code = 1) with h1 | h1
   ·rw [if_pos h1] at h ⊢
    exact partC_kind h
   ·rw [if_neg h1] at h
    exact absurd h h1
section
variable {s:Sig} {terms nums:List Term}
theorem run_says:∀ (f:Nat) (lits:List LitD),((runF s terms nums f lits).code = 0 → modelAll s (runF s terms nums f lits).model lits = true) ∧ ((runF s terms nums f lits).code = 1 → 1 ≤ (runF s terms nums f lits).case.kind)
 | 0,lits=>by
   constructor <;> (intro h; simp [runF,much] at h)
 | f + 1,lits=>by
   rcases Classical.em (12 < (eqsOf lits).length) with h12 | h12
   ·rw [run_much h12]
    constructor <;> (intro h; simp [much] at h)
   cases hc:firstAt (clashes terms (closed terms (eqsOf lits)).1) lits with
   | some n=>
     rw [run_clash h12 hc]
     exact ⟨fun h=>by simp at h,fun _=>by simp [Case.kind]⟩
   | none=>
   rcases Classical.em ((farRun (linsOf nums lits)).code = 1) with h1 | h1
   ·rw [run_far1 h12 hc h1]
    exact ⟨fun h=>by simp at h,fun _=>by simp [Case.kind]⟩
   rcases Classical.em ((farRun (linsOf nums lits)).code = 0) with h0 | h0
   ·cases hp:firstPair nums.length (openP true terms nums (closed terms (eqsOf lits)).1 lits) with
    | some q=>
      rw [run_have h12 hc h0 hp]
      obtain ⟨i1,i2⟩:=run_says f (lits ++ [eqLit (nums.getD q.1 term0) (nums.getD q.2 term0)])
      generalize runF s terms nums f (lits ++ [eqLit (nums.getD q.1 term0) (nums.getD q.2 term0)]) = r at *
      unfold haveC
      rcases Classical.em (r.code = 1) with hr | hr
      ·rw [if_pos hr]
       exact ⟨fun h=>by simp at h,fun _=>by simp [Case.kind]⟩
      ·rw [if_neg hr]
       exact ⟨fun h=>modelAll_app (i1 h),fun h=>absurd h hr⟩
    | none=>
    cases hq:firstPair nums.length (openP false terms nums (closed terms (eqsOf lits)).1 lits) with
    | some q=>
      rw [run_part h12 hc h0 hp hq]
      refine ⟨fun h=>?_,fun h=>by rw [partC_kind h]; omega⟩
      obtain ⟨l,hl,h2,h3⟩:=partC_yes h
      rw [h3]
      obtain ⟨x,_,rfl⟩:=List.mem_map.1 hl
      exact modelAll_app ((run_says f (lits ++ [x])).1 h2)
    | none=>
      rw [run_model h12 hc h0 hp hq]
      rcases Classical.em (modelAll s ⟨modelRows terms nums (closed terms (eqsOf lits)).1 (farRun (linsOf nums lits)).vals⟩ lits = true) with hm | hm
      ·rw [if_pos hm]
       exact ⟨fun _=>hm,fun h=>by simp at h⟩
      ·rw [if_neg hm]
       constructor <;> (intro h; simp [much] at h)
   ·rw [run_far2 h12 hc h1 h0]
    constructor <;> (intro h; simp [much] at h)
theorem both_yes {lits:List LitD} (h:(bothRun s lits).code = 0):modelAll s (bothRun s lits).model lits = true:=by
 unfold bothRun at h ⊢
 split at h
 ·rename_i hb
  rw [if_pos hb]
  exact (run_says 13 lits).1 h
 ·simp at h
theorem both_kind {lits:List LitD} (h:(bothRun s lits).code = 1):1 ≤ (bothRun s lits).case.kind:=by
 unfold bothRun at h ⊢
 split at h
 ·rename_i hb
  rw [if_pos hb]
  exact (run_says 13 lits).2 h
 ·simp at h
theorem modelAll_not {m:Model} {lits:List LitD} {l:LitD} (h1:l ∈ lits) (h2:⟨l.atom,!l.no⟩ ∈ lits):modelAll s m lits = false:=by
 cases h:modelAll s m lits
 ·rfl
 ·simp only [modelAll,Bool.and_eq_true,List.all_eq_true,decide_eq_true_eq] at h
  have a1:=h.2 _ h1
  have a2:=h.2 _ h2
  simp only [modelLit] at a1 a2
  split at a1
  ·rename_i hc
   rw [if_pos hc] at a2
   cases ha:atomIs m l.atom with
   | none=>rw [ha] at a1; simp at a1
   | some v=>
     rw [ha] at a1 a2
     cases v <;> cases hno:l.no <;> simp [hno] at a1 a2
  ·simp at a1
end
end Go.Mod
