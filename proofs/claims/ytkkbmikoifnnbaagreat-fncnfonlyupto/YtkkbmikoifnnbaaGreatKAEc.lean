/-
  Clause form, what it means, in plain Lean. No program is walked here. Clause form and values of all marks: the laws on them, in plain Lean. No program is walked here. Clause form says what the formulas say, and fixes what is added: plain laws. No program is walked here.
-/
import Derived.Test.YtkkbmikoifnnbaaGreatKAEa
set_option linter.unusedVariables false
set_option linter.unusedSimpArgs false
namespace Go.Mod
open Go.Eng
def markT (v:Int → Bool) (l:Int):Bool:=if 0 < l then v l else !v (-l)
def clauseT (v:Int → Bool) (c:List Int):Bool:=c.any (markT v)
def cnfT (v:Int → Bool) (c:Cnf):Bool:=c.list.all (clauseT v)
theorem markT_neg {v:Int → Bool} {l:Int} (h:l ≠ 0):markT v (-l) = !markT v l:=by
 unfold markT
 rcases Int.lt_or_gt_of_ne h with h1 | h1
 ·rw [if_pos (by omega),if_neg (by omega)]; simp
 ·rw [if_neg (by omega),if_pos h1]; simp
theorem markT_pos {v:Int → Bool} {l:Int} (h:0 < l):markT v l = v l:=by rw [markT,if_pos h]
theorem clauseT_mem {v:Int → Bool} {a b:List Int} (h:∀ x,x ∈ a ↔ x ∈ b):clauseT v a = clauseT v b:=by
 have key:clauseT v a = true ↔ clauseT v b = true:=by
  simp only [clauseT,List.any_eq_true]
  exact ⟨fun ⟨x,h1,h2⟩=>⟨x,(h x).1 h1,h2⟩,fun ⟨x,h1,h2⟩=>⟨x,(h x).2 h1,h2⟩⟩
 cases h1:clauseT v a <;> cases h2:clauseT v b <;> simp_all
theorem clauseT_both {v:Int → Bool} {a:List Int} {l:Int} (h0:l ≠ 0) (h1:l ∈ a) (h2:-l ∈ a):clauseT v a = true:=by
 simp only [clauseT,List.any_eq_true]
 cases h:markT v l
 ·exact ⟨-l,h2,by rw [markT_neg h0,h]; rfl⟩
 ·exact ⟨l,h1,h⟩
theorem addC_T (v:Int → Bool) (c:Cnf) {l:List Int} (h:∀ x ∈ l,isMark x 60 = true):cnfT v (addC c l) = (cnfT v c && clauseT v l):=by
 have e:=clauseOf_fairB l
 unfold addC
 cases hf:fairB l with
 | true=>
   rw [hf] at e
   simp only [if_true] at e
   rw [e]
   simp only [cnfT,List.all_append,List.all_cons,List.all_nil,Bool.and_true]
   rw [clauseT_mem fun x=>(compact_mem (isort l) x).trans (isort_mem l x)]
 | false=>
   rw [hf] at e
   simp only [Bool.false_eq_true,if_false] at e
   rw [e]
   simp only [fairB] at hf
   obtain ⟨x,hx,hb⟩:=List.all_eq_false.1 hf
   have hm:=h x hx
   rw [hm,Bool.true_and] at hb
   have hc:-x ∈ l:=by
    have:l.contains (-x) = true:=by
     cases hq:l.contains (-x)
     ·rw [hq] at hb; exact (hb rfl).elim
     ·rfl
    exact List.contains_iff_mem.1 this
   rw [clauseT_both (isMark_iff.1 hm).1 hx hc,Bool.and_true]
def op2 (k:Int) (x y:Bool):Bool:=if k = 3 then x && y else if k = 4 then x || y else if k = 5 then !x || y else x == y
def m60 (l:Int):Prop:=l ≠ 0 ∧ -60 ≤ l ∧ l ≤ 60
theorem m60_mark {l:Int} (h:m60 l):isMark l 60 = true:=isMark_iff.2 h
theorem m60_neg {l:Int} (h:m60 l):m60 (-l):=⟨by have:=h.1; omega,by have:=h.2; omega,by have:=h.2; omega⟩
theorem orC_T (v:Int → Bool) (c:Cnf) {m a b:Int} (hm:m60 m) (ha:m60 a) (hb:m60 b):cnfT v (orC c m a b) = (cnfT v c && (markT v m == (markT v a || markT v b))):=by
 have n1:=m60_mark hm; have n2:=m60_mark ha; have n3:=m60_mark hb
 have n4:=m60_mark (m60_neg hm); have n5:=m60_mark (m60_neg ha); have n6:=m60_mark (m60_neg hb)
 unfold orC
 rw [addC_T v _ (by simp [n4,n2,n3]),addC_T v _ (by simp [n1,n6]),addC_T v _ (by simp [n1,n5])]
 simp only [clauseT,List.any_cons,List.any_nil,Bool.or_false,markT_neg hm.1,markT_neg ha.1,markT_neg hb.1]
 cases cnfT v c <;> cases markT v m <;> cases markT v a <;> cases markT v b <;> rfl
theorem iffC_T (v:Int → Bool) (c:Cnf) {m a b:Int} (hm:m60 m) (ha:m60 a) (hb:m60 b):cnfT v (iffC c m a b) = (cnfT v c && (markT v m == (markT v a == markT v b))):=by
 have n1:=m60_mark hm; have n2:=m60_mark ha; have n3:=m60_mark hb
 have n4:=m60_mark (m60_neg hm); have n5:=m60_mark (m60_neg ha); have n6:=m60_mark (m60_neg hb)
 unfold iffC
 rw [addC_T v _ (by simp [n1,n5,n6]),addC_T v _ (by simp [n1,n2,n3]),addC_T v _ (by simp [n4,n2,n6]),addC_T v _ (by simp [n4,n5,n3])]
 simp only [clauseT,List.any_cons,List.any_nil,Bool.or_false,markT_neg hm.1,markT_neg ha.1,markT_neg hb.1]
 cases cnfT v c <;> cases markT v m <;> cases markT v a <;> cases markT v b <;> rfl
theorem nodeC_T (v:Int → Bool) (k:Int) (c:Cnf) {m a b:Int} (hm:m60 m) (ha:m60 a) (hb:m60 b):cnfT v (nodeC k c m a b) = (cnfT v c && (markT v m == op2 k (markT v a) (markT v b))):=by
 unfold nodeC op2
 split
 ·rw [orC_T v c (m60_neg hm) (m60_neg ha) (m60_neg hb)]
  simp only [markT_neg hm.1,markT_neg ha.1,markT_neg hb.1]
  cases cnfT v c <;> cases markT v m <;> cases markT v a <;> cases markT v b <;> rfl
 ·split
  ·exact orC_T v c hm ha hb
  ·split
   ·rw [orC_T v c hm (m60_neg ha) hb]
    simp only [markT_neg ha.1]
   ·exact iffC_T v c hm ha hb
def okN (v:Int → Bool) (w:Atom → Bool):Int → List Form → Bool
 | _,[]=>true
 | m,f :: fs=>(v (m + 1) == holds w f) && okN v w (m + 1) fs
theorem okN_app (v:Int → Bool) (w:Atom → Bool):∀ (a b:List Form) (m:Int),okN v w m (a ++ b) = (okN v w m a && okN v w (m + a.length) b)
 | [],b,m=>by simp [okN]
 | f :: a,b,m=>by
   simp only [List.cons_append,okN,okN_app v w a b,List.length_cons,Bool.and_assoc]
   rw [show m + 1 + (a.length:Int) = m + ((a.length + 1:Nat):Int) by omega]
theorem holds_k (w:Atom → Bool) (t:Form):holds w t = holds1 t.kind t.lit (holdss w t.kids) w:=by cases t; rfl
theorem holds_lit {w:Atom → Bool} {t:Form} (h:t.kind = 1):holds w t = (w t.lit.atom != t.lit.no):=by rw [holds_k,holds1,if_pos h]
theorem holdss_getD (w:Atom → Bool):∀ (ks:List Form) (i:Nat) (h:i < ks.length),(holdss w ks).getD i false = holds w ks[i]
 | [],i,h=>by simp at h
 | t :: ts,0,_=>rfl
 | t :: ts,i + 1,h=>by
   simp only [holdss,List.getD_cons_succ,List.getElem_cons_succ]
   exact holdss_getD w ts i (by simpa using h)
theorem holds_not {w:Atom → Bool} {t:Form} (h:t.kind = 2) (hl:t.kids.length = 1):holds w t = !holds w t.kids[0]:=by
 rw [holds_k,holds1,if_neg (by omega),if_pos h,holdss_getD w _ 0 (by omega)]
theorem holds_two {w:Atom → Bool} {t:Form} (h1:t.kind ≠ 1) (h2:t.kind ≠ 2) (hl:t.kids.length = 2):holds w t = op2 t.kind (holds w t.kids[0]) (holds w t.kids[1]):=by
 rw [holds_k,holds1,if_neg h1,if_neg h2,holdss_getD w _ 0 (by omega),holdss_getD w _ 1 (by omega)]
 rfl
theorem formC_T (v:Int → Bool):∀ (t:Form) (d:Nat) (atoms:List Atom) (c:Cnf),formShape t d = true → inside atoms t → (atoms.length:Int) ≤ c.many → c.many + formMany t d ≤ 60 →
 (formC atoms t c).1.many = c.many + (nodesF t).length ∧ cnfT v (formC atoms t c).1 = (cnfT v c && okN v (fun a=>v (atomIdx atoms a + 1)) c.many (nodesF t)) ∧
 (okN v (fun a=>v (atomIdx atoms a + 1)) c.many (nodesF t) = true → markT v (formC atoms t c).2 = holds (fun a=>v (atomIdx atoms a + 1)) t):=by
 refine Form.ind fun k l ks ih d atoms c hsh hin hc hb=>?_
 generalize ht:Form.mk k l ks = t at *
 have hkids:t.kids = ks:=by rw [← ht]; rfl
 rw [← hkids] at ih
 cases d with
 | zero=>rw [← ht] at hsh; simp [formShape] at hsh
 | succ d=>
 have hk:=formShape_kids hsh
 have hmany:formMany t (d + 1) = 1 + formManys t.kids d:=by rw [← ht]; rfl
 rcases formHead_arms hk.1 with ⟨k1,hl0⟩ | ⟨k2,hl1⟩ | ⟨k3,hl2⟩
 ·rw [formC_lit k1,nodesF_lit k1,holds_lit k1]
  have hmem:=inside_lit hin k1
  have b1:=atomIdx_nn.2 hmem
  refine ⟨by simp,by simp [okN],fun _=>?_⟩
  cases hno:t.lit.no
  ·simp only [Bool.false_eq_true,if_false,Bool.bne_false]
   exact markT_pos (by omega)
  ·simp only [if_true,Bool.bne_true]
   rw [markT_neg (by omega),markT_pos (by omega)]
 ·have h0:0 < t.kids.length:=by omega
  have hk0:=List.getElem_mem h0
  have hs0:=formShapes_mem hk.2.2 _ hk0
  have hi0:=inside_kids hin (by omega) _ hk0
  have e1:formManys t.kids d = formMany t.kids[0] d:=by
   obtain ⟨u,hu⟩:=List.length_eq_one_iff.1 hl1
   simp [hu,formManys]
  obtain ⟨i1,i2,i3⟩:=ih t.kids[0] hk0 d atoms c hs0 hi0 hc (by omega)
  have q0:=formC_mark t.kids[0] d atoms c hs0 hi0 hc (by omega)
  rw [formC_not k2 hl1,nodesF_not k2 hl1,holds_not k2 hl1]
  exact ⟨i1,i2,fun h=>by rw [markT_neg q0.1,i3 h]⟩
 ·have n1:t.kind ≠ 1:=by omega
  have n2:t.kind ≠ 2:=by omega
  have h0:0 < t.kids.length:=by omega
  have h1:1 < t.kids.length:=by omega
  have hk0:=List.getElem_mem h0
  have hs0:=formShapes_mem hk.2.2 _ hk0
  have hi0:=inside_kids hin n1 _ hk0
  have hk1:=List.getElem_mem h1
  have hs1:=formShapes_mem hk.2.2 _ hk1
  have hi1:=inside_kids hin n1 _ hk1
  have e1:formManys t.kids d = formMany t.kids[0] d + formMany t.kids[1] d:=by
   have key:∀ ks:List Form,(hl:ks.length = 2) → formManys ks d = formMany ks[0] d + formMany ks[1] d:=by
    intro ks hl
    match ks,hl with
    | [u,u'],_=>simp [formManys]
   exact key _ hl2
  have g0:=formC_grow t.kids[0] d atoms c hs0
  have q0:=formC_mark t.kids[0] d atoms c hs0 hi0 hc (by omega)
  obtain ⟨i1,i2,i3⟩:=ih t.kids[0] hk0 d atoms c hs0 hi0 hc (by omega)
  have g1:=formC_grow t.kids[1] d atoms (formC atoms t.kids[0] c).1 hs1
  have q1:=formC_mark t.kids[1] d atoms (formC atoms t.kids[0] c).1 hs1 hi1 (by omega) (by omega)
  obtain ⟨j1,j2,j3⟩:=ih t.kids[1] hk1 d atoms (formC atoms t.kids[0] c).1 hs1 hi1 (by omega) (by omega)
  rw [formC_two n1 n2 hl2,nodesF_two n1 n2 hl2,holds_two n1 n2 hl2]
  generalize formC atoms t.kids[0] c = r1 at *
  generalize formC atoms t.kids[1] r1.1 = r2 at *
  have a0:m60 (r2.1.many + 1):=⟨by omega,by omega,by omega⟩
  have a1:m60 r1.2:=⟨q0.1,by omega,by omega⟩
  have a2:m60 r2.2:=⟨q1.1,by omega,by omega⟩
  have e2:cnfT v (⟨r2.1.many + 1,r2.1.list⟩:Cnf) = cnfT v r2.1:=rfl
  refine ⟨?_,?_,?_⟩
  ·simp only [nodeC_many,List.length_append,List.length_singleton]
   omega
  ·rw [nodeC_T v _ _ a0 a1 a2,e2,j2,i2,okN_app,okN_app,i1,markT_pos (by omega)]
   simp only [okN,Bool.and_true]
   rw [show c.many + ((nodesF t.kids[0] ++ nodesF t.kids[1]).length:Int) + 1 = r2.1.many + 1 by rw [List.length_append]; omega]
   rw [i1] at j3
   cases z1:okN v (fun a=>v (atomIdx atoms a + 1)) c.many (nodesF t.kids[0])
   ·simp
   ·cases z2:okN v (fun a=>v (atomIdx atoms a + 1)) (c.many + (nodesF t.kids[0]).length) (nodesF t.kids[1])
    ·simp
    ·rw [i3 z1,j3 z2,← holds_two n1 n2 hl2]
     simp
  ·intro h
   rw [okN_app,Bool.and_eq_true,okN] at h
   have h2:=h.2
   simp only [okN,Bool.and_true,beq_iff_eq] at h2
   rw [show c.many + ((nodesF t.kids[0] ++ nodesF t.kids[1]).length:Int) + 1 = r2.1.many + 1 by rw [List.length_append]; omega] at h2
   rw [markT_pos (by omega),h2,holds_two n1 n2 hl2]
end Go.Mod
namespace Go.Mod
open Go.Eng
theorem cnfGo_T (v:Int → Bool) (atoms:List Atom):∀ (fs:List Form) (c:Cnf),(∀ f ∈ fs,isForm f = true ∧ inside atoms f) → (atoms.length:Int) ≤ c.many → c.many + 10 * fs.length ≤ 60 →
 (cnfGo atoms fs c).many = c.many + (fs.flatMap nodesF).length ∧ cnfT v (cnfGo atoms fs c) = (cnfT v c && (okN v (fun a=>v (atomIdx atoms a + 1)) c.many (fs.flatMap nodesF) && fs.all (holds fun a=>v (atomIdx atoms a + 1))))
 | [],c,_,_,_=>by simp [cnfGo,okN]
 | f :: fs,c,hf,hc,hb=>by
   obtain ⟨f1,f2⟩:=hf f (by simp)
   have hs:=isForm_shape f1
   simp only [List.length_cons] at hb
   obtain ⟨i1,i2,i3⟩:=formC_T v f 5 atoms c hs.1 f2 hc (by omega)
   have g:=formC_grow f 5 atoms c hs.1
   have q:=formC_mark f 5 atoms c hs.1 f2 hc (by omega)
   have a1:m60 (formC atoms f c).2:=⟨q.1,by omega,by omega⟩
   have ih:=cnfGo_T v atoms fs (addC (formC atoms f c).1 [(formC atoms f c).2]) (fun x hx=>hf x (by simp [hx])) (by rw [addC_many]; omega) (by rw [addC_many]; omega)
   simp only [addC_many] at ih
   obtain ⟨j1,j2⟩:=ih
   rw [addC_T v _ (by simp [m60_mark a1]),i2] at j2
   simp only [cnfGo,List.flatMap_cons,List.length_append,List.all_cons,okN_app]
   refine ⟨by rw [j1,i1]; omega,?_⟩
   rw [j2,i1]
   simp only [clauseT,List.any_cons,List.any_nil,Bool.or_false]
   cases z:okN v (fun a=>v (atomIdx atoms a + 1)) c.many (nodesF f)
   ·simp
   ·rw [i3 z]
    cases cnfT v c <;> cases holds (fun a=>v (atomIdx atoms a + 1)) f <;> simp
def Good (m:Int) (x:List Int):Prop:=Inc x ∧ ∀ l ∈ x,l ≠ 0 ∧ -m ≤ l ∧ l ≤ m
theorem clauseGo_of {m:Int}:∀ {x:List Int} {p:Option Int},Inc x → (∀ l ∈ x,l ≠ 0 ∧ -m ≤ l ∧ l ≤ m) → (∀ q,p = some q → ∀ l ∈ x,q.natAbs < l.natAbs) → clauseGo m p x = true
 | [],_,_,_,_=>rfl
 | l :: ls,p,hi,hm,hp=>by
   obtain ⟨h1,h2⟩:=List.pairwise_cons.1 hi
   have h3:=clauseGo_of (p:=some l) h2 (fun y hy=>hm y (by simp [hy])) (fun q hq y hy=>by cases hq; exact h1 y hy)
   simp only [clauseGo,h3,isMark_iff.2 (hm l (by simp)),Bool.true_and,Bool.and_true]
   cases p with
   | none=>rfl
   | some q=>simpa using hp q rfl l (by simp)
theorem clauseOf_inc {l o:List Int} (h:clauseOf l = some o):Inc o:=by
 have e:=clauseOf_fairB l
 rw [h] at e
 cases hf:fairB l with
 | false=>rw [hf] at e; cases e
 | true=>
   rw [hf] at e
   simp only [if_true,Option.some.injEq] at e
   rw [e]
   simp only [fairB,List.all_eq_true,Bool.and_eq_true] at hf
   refine compact_inc (isort_srt l) fun x hx y hy hxy=>?_
   have hx:=(isort_mem l x).1 hx
   have hy:=(isort_mem l y).1 hy
   have h1:=hf x hx
   rcases Int.natAbs_eq_natAbs_iff.1 hxy with h2 | h2
   ·exact h2
   ·exfalso
    have h3:l.contains (-x) = true:=List.contains_iff_mem.2 (by rw [h2]; simpa using hy)
    rw [h3] at h1
    exact absurd h1.2 (by simp)
theorem addC_good {m:Int} {c:Cnf} {l:List Int} (hc:∀ x ∈ c.list,Good m x) (hl:∀ x ∈ l,x ≠ 0 ∧ -m ≤ x ∧ x ≤ m):∀ x ∈ (addC c l).list,Good m x:=by
 unfold addC
 split
 ·exact hc
 ·rename_i o ho
  intro x hx
  simp only [List.mem_append,List.mem_singleton] at hx
  rcases hx with hx | rfl
  ·exact hc x hx
  ·exact ⟨clauseOf_inc ho,fun y hy=>hl y ((clauseOf_sub ho).2 y hy)⟩
theorem good_up {m n:Int} (h:m ≤ n) {x:List Int} (hx:Good m x):Good n x:=⟨hx.1,fun l hl=>by have:=hx.2 l hl; exact ⟨this.1,by omega,by omega⟩⟩
theorem nodeC_good {m k v a b:Int} {c:Cnf} (hc:∀ x ∈ c.list,Good m x) (hv:v ≠ 0 ∧ -m ≤ v ∧ v ≤ m) (ha:a ≠ 0 ∧ -m ≤ a ∧ a ≤ m) (hb:b ≠ 0 ∧ -m ≤ b ∧ b ≤ m):∀ x ∈ (nodeC k c v a b).list,Good m x:=by
 have o:∀ (v a b:Int),v ≠ 0 ∧ -m ≤ v ∧ v ≤ m → a ≠ 0 ∧ -m ≤ a ∧ a ≤ m → b ≠ 0 ∧ -m ≤ b ∧ b ≤ m → ∀ x ∈ (orC c v a b).list,Good m x:=fun v a b h1 h2 h3=>by
  unfold orC
  refine addC_good (addC_good (addC_good hc ?_) ?_) ?_ <;> (intro x hx; simp only [List.mem_cons,List.not_mem_nil,or_false] at hx; omega)
 have i:∀ x ∈ (iffC c v a b).list,Good m x:=by
  unfold iffC
  refine addC_good (addC_good (addC_good (addC_good hc ?_) ?_) ?_) ?_ <;> (intro x hx; simp only [List.mem_cons,List.not_mem_nil,or_false] at hx; omega)
 unfold nodeC
 split
 ·exact o _ _ _ (by omega) (by omega) (by omega)
 ·split
  ·exact o _ _ _ hv ha hb
  ·split
   ·exact o _ _ _ hv (by omega) hb
   ·exact i
theorem formC_good:∀ (t:Form) (d:Nat) (atoms:List Atom) (c:Cnf),formShape t d = true → inside atoms t → (atoms.length:Int) ≤ c.many → (∀ x ∈ c.list,Good c.many x) → ∀ x ∈ (formC atoms t c).1.list,Good (formC atoms t c).1.many x:=by
 refine Form.ind fun k l ks ih d atoms c hsh hin hc hg=>?_
 generalize ht:Form.mk k l ks = t at *
 have hkids:t.kids = ks:=by rw [← ht]; rfl
 rw [← hkids] at ih
 cases d with
 | zero=>rw [← ht] at hsh; simp [formShape] at hsh
 | succ d=>
 have hk:=formShape_kids hsh
 rcases formHead_arms hk.1 with ⟨k1,hl0⟩ | ⟨k2,hl1⟩ | ⟨k3,hl2⟩
 ·rw [formC_lit k1]; exact hg
 ·have h0:0 < t.kids.length:=by omega
  have hk0:=List.getElem_mem h0
  rw [formC_not k2 hl1]
  exact ih t.kids[0] hk0 d atoms c (formShapes_mem hk.2.2 _ hk0) (inside_kids hin (by omega) _ hk0) hc hg
 ·have n1:t.kind ≠ 1:=by omega
  have n2:t.kind ≠ 2:=by omega
  have h0:0 < t.kids.length:=by omega
  have h1:1 < t.kids.length:=by omega
  have hk0:=List.getElem_mem h0
  have hs0:=formShapes_mem hk.2.2 _ hk0
  have hi0:=inside_kids hin n1 _ hk0
  have hk1:=List.getElem_mem h1
  have hs1:=formShapes_mem hk.2.2 _ hk1
  have hi1:=inside_kids hin n1 _ hk1
  have g0:=formC_grow t.kids[0] d atoms c hs0
  have q0:=formC_mark t.kids[0] d atoms c hs0 hi0 hc (by omega)
  have r0:=ih t.kids[0] hk0 d atoms c hs0 hi0 hc hg
  have g1:=formC_grow t.kids[1] d atoms (formC atoms t.kids[0] c).1 hs1
  have q1:=formC_mark t.kids[1] d atoms (formC atoms t.kids[0] c).1 hs1 hi1 (by omega) (by omega)
  have r1:=ih t.kids[1] hk1 d atoms (formC atoms t.kids[0] c).1 hs1 hi1 (by omega) r0
  rw [formC_two n1 n2 hl2]
  simp only [nodeC_many]
  refine nodeC_good (fun x hx=>good_up ?_ (r1 x hx)) ?_ ?_ ?_ <;> omega
theorem cnfGo_good (atoms:List Atom):∀ (fs:List Form) (c:Cnf),(∀ f ∈ fs,isForm f = true ∧ inside atoms f) → (atoms.length:Int) ≤ c.many → (∀ x ∈ c.list,Good c.many x) →
 (∀ x ∈ (cnfGo atoms fs c).list,Good (cnfGo atoms fs c).many x) ∧ (cnfGo atoms fs c).list.length ≤ c.list.length + 41 * fs.length ∧ (cnfGo atoms fs c).many ≤ c.many + 10 * fs.length ∧ c.many ≤ (cnfGo atoms fs c).many
 | [],c,_,_,hg=>⟨hg,by simp [cnfGo],by simp [cnfGo],by simp [cnfGo]⟩
 | f :: fs,c,hf,hc,hg=>by
   obtain ⟨f1,f2⟩:=hf f (by simp)
   have hs:=isForm_shape f1
   have g:=formC_grow f 5 atoms c hs.1
   have q:=formC_mark f 5 atoms c hs.1 f2 hc (by omega)
   have r:=formC_good f 5 atoms c hs.1 f2 hc hg
   have a:=addC_len (formC atoms f c).1 [(formC atoms f c).2]
   have ih:=cnfGo_good atoms fs (addC (formC atoms f c).1 [(formC atoms f c).2]) (fun x hx=>hf x (by simp [hx])) (by rw [addC_many]; omega) (by
    rw [addC_many]
    exact addC_good r fun x hx=>by simp only [List.mem_singleton] at hx; omega)
   rw [addC_many] at ih
   simp only [cnfGo,List.length_cons]
   exact ⟨ih.1,by omega,by omega,by omega⟩
theorem cnfOf_ok (list:List Form):cnfOk (cnfOf list) = true:=by
 cases h:formsAtoms list with
 | none=>rw [cnfOf_none h]; rfl
 | some atoms=>
   obtain ⟨p1,p2,p3,p4⟩:=formsAtoms_parts h
   have:=cnfGo_good atoms list ⟨atoms.length,[]⟩ (fun f hf=>⟨p2 f hf,by rw [p4]; exact forms_inside hf⟩) (Int.le_refl _) (by simp)
   rw [cnfOf_some h]
   simp only [List.length_nil] at this
   simp only [cnfOk,Bool.and_eq_true,decide_eq_true_eq,List.all_eq_true]
   refine ⟨withinB_iff.2 ⟨by omega,by omega⟩,by omega,fun x hx=>?_⟩
   have hx:=this.1 x hx
   simp only [clauseOk,Bool.and_eq_true]
   exact ⟨withinB_iff.2 ⟨by omega,by omega⟩,clauseGo_of hx.1 hx.2 (by simp)⟩
def isTrueL (l:Int) (vals:List Bool):Bool:=decide (l ≠ 0) && (within l (-vals.length) vals.length && (vals.getD (l.natAbs - 1) false == decide (0 < l)))
def clauseIs (c:List Int) (vals:List Bool):Bool:=c.any fun l=>isTrueL l vals
def cnfIs (c:Cnf) (vals:List Bool):Bool:=cnfOk c && (decide ((vals.length:Int) = c.many) && c.list.all fun x=>clauseIs x vals)
def cnfVals (list:List Form) (vals:List Bool):List Bool:=match formsAtoms list with
 | none=>[]
 | some atoms=>if vals.length = atoms.length then vals ++ (list.flatMap nodesF).map (holds fun a=>vals.getD (atomIdx atoms a).toNat false) else []
def valT (vals:List Bool) (i:Int):Bool:=vals.getD (i.toNat - 1) false
theorem isTrueL_T {vals:List Bool} {l:Int} (h0:l ≠ 0) (h:-(vals.length:Int) ≤ l ∧ l ≤ vals.length):isTrueL l vals = markT (valT vals) l:=by
 have h1:within l (-vals.length) vals.length = true:=withinB_iff.2 h
 simp only [isTrueL,h1,h0,ne_eq,not_false_eq_true,decide_true,Bool.true_and,markT,valT]
 rcases Int.lt_or_gt_of_ne h0 with h2 | h2
 ·have h3:¬ 0 < l:=by omega
  rw [if_neg h3,show l.natAbs - 1 = (-l).toNat - 1 by omega]
  simp [h3]
 ·rw [if_pos h2,show l.natAbs - 1 = l.toNat - 1 by omega]
  simp [h2]
theorem cnfIs_T {c:Cnf} {vals:List Bool} (hc:cnfOk c = true) (hv:(vals.length:Int) = c.many):cnfIs c vals = cnfT (valT vals) c:=by
 simp only [cnfIs,hc,hv,decide_true,Bool.true_and,cnfT]
 have hall:∀ x ∈ c.list,clauseOk x c.many = true:=by
  simp only [cnfOk,Bool.and_eq_true] at hc
  exact List.all_eq_true.1 hc.2.2
 have key:∀ (l:List (List Int)),(∀ x ∈ l,clauseOk x c.many = true) → (l.all fun x=>clauseIs x vals) = l.all (clauseT (valT vals)):=by
  intro l
  induction l with
  | nil=>intro _; rfl
  | cons x xs ih=>
    intro h
    have hm:=(clauseOk_mem (h x (by simp))).2.2
    have e:∀ y:List Int,(∀ l ∈ y,l ≠ 0 ∧ -c.many ≤ l ∧ l ≤ c.many) → clauseIs y vals = clauseT (valT vals) y:=by
     intro y
     induction y with
     | nil=>intro _; rfl
     | cons l ls ihl=>
       intro hy
       have h1:=hy l (by simp)
       have h2:=ihl fun z hz=>hy z (by simp [hz])
       simp only [clauseIs,clauseT,List.any_cons] at h2 ⊢
       rw [isTrueL_T h1.1 (by omega),h2]
    simp only [List.all_cons,e x hm,ih fun y hy=>h y (by simp [hy])]
 exact key _ hall
theorem okN_get {v:Int → Bool} {w:Atom → Bool}:∀ {fs:List Form} {m:Int},okN v w m fs = true → ∀ (j:Nat) (h:j < fs.length),v (m + 1 + j) = holds w fs[j]
 | [],_,_,j,h=>by simp at h
 | f :: fs,m,hk,j,h=>by
   simp only [okN,Bool.and_eq_true,beq_iff_eq] at hk
   cases j with
   | zero=>simpa using hk.1
   | succ j=>
     have:=okN_get hk.2 j (by simpa using h)
     rw [show m + 1 + ((j + 1:Nat):Int) = m + 1 + 1 + j by omega]
     simpa using this
theorem okN_of {v:Int → Bool} {w:Atom → Bool}:∀ {fs:List Form} {m:Int},(∀ (j:Nat) (h:j < fs.length),v (m + 1 + j) = holds w fs[j]) → okN v w m fs = true
 | [],_,_=>rfl
 | f :: fs,m,hk=>by
   simp only [okN,Bool.and_eq_true,beq_iff_eq]
   have h0:=hk 0 (by simp)
   refine ⟨by simpa only [Int.natCast_zero,Int.add_zero,List.getElem_cons_zero] using h0,okN_of fun j h=>?_⟩
   have:=hk (j + 1) (by simpa using h)
   rw [show m + 1 + ((j + 1:Nat):Int) = m + 1 + 1 + j by omega] at this
   simpa using this
theorem cnfOf_T {list:List Form} {atoms:List Atom} (h:formsAtoms list = some atoms) (v:Int → Bool):(cnfOf list).many = atoms.length + (list.flatMap nodesF).length ∧ cnfT v (cnfOf list) = (okN v (fun a=>v (atomIdx atoms a + 1)) atoms.length (list.flatMap nodesF) && list.all (holds fun a=>v (atomIdx atoms a + 1))):=by
 obtain ⟨p1,p2,p3,p4⟩:=formsAtoms_parts h
 have:=cnfGo_T v atoms list ⟨atoms.length,[]⟩ (fun f hf=>⟨p2 f hf,by rw [p4]; exact forms_inside hf⟩) (Int.le_refl _) (by simp only; omega)
 rw [cnfOf_some h]
 simpa [cnfT] using this
theorem atomIdx_b (l:List Atom) (a:Atom):-1 ≤ atomIdx l a ∧ ((atomIdx l a).toNat < l.length ∨ l = []):=by
 have h1:=idxGo_le (p:=fun b=>decide (a = b)) (xs:=l) (i:=0)
 have h2:=idxGo_shift (p:=fun b=>decide (a = b)) (xs:=l) (i:=0) (by omega)
 have e:atomIdx l a = idxGo (fun b=>decide (a = b)) l 0:=rfl
 rw [← e] at h1 h2
 have h3:-1 ≤ atomIdx l a:=by split at h2 <;> omega
 refine ⟨h3,?_⟩
 cases l with
 | nil=>exact .inr rfl
 | cons x xs=>left; simp only [List.length_cons] at h1 ⊢; omega
theorem valT_app {vals more:List Bool} {i:Nat} (h:i < vals.length):valT (vals ++ more) (i + 1) = vals.getD i false:=by
 simp only [valT,show ((i:Int) + 1).toNat - 1 = i by omega,List.getD_eq_getElem?_getD,List.getElem?_append_left h]
end Go.Mod
namespace Go.Mod
open Go.Eng
set_option maxRecDepth 100000
theorem nodesFs_flat:∀ (l:List Form),nodesFs l = l.flatMap nodesF
 | []=>rfl
 | t :: ts=>by simp [nodesFs,nodesFs_flat ts]
def wOf (atoms:List Atom) (vals:List Bool) (a:Atom):Bool:=vals.getD (atomIdx atoms a).toNat false
theorem cnfVals_some {list:List Form} {atoms:List Atom} {vals:List Bool} (h:formsAtoms list = some atoms) (hv:vals.length = atoms.length):cnfVals list vals = vals ++ (list.flatMap nodesF).map (holds (wOf atoms vals)):=by
 unfold cnfVals
 rw [h]
 simp only [hv,if_true]
 rfl
theorem cnfVals_none {list:List Form} {vals:List Bool} (h:formsAtoms list = none):cnfVals list vals = []:=by
 unfold cnfVals
 rw [h]
theorem cnfVals_off {list:List Form} {atoms:List Atom} {vals:List Bool} (h:formsAtoms list = some atoms) (hv:vals.length ≠ atoms.length):cnfVals list vals = []:=by
 unfold cnfVals
 rw [h]
 simp only [hv,if_false]
theorem valT_more {vals more:List Bool} {n j:Nat} (hn:vals.length = n) (hj:j < more.length):valT (vals ++ more) ((n:Int) + 1 + (j:Int)) = more[j]:=by
 have e:((n:Int) + 1 + (j:Int)).toNat - 1 = n + j:=by omega
 have hl:n + j < (vals ++ more).length:=by rw [List.length_append]; omega
 simp only [valT,e,List.getD_eq_getElem?_getD]
 rw [List.getElem?_append_right (by omega)]
 have e2:n + j - vals.length = j:=by omega
 rw [e2,List.getElem?_eq_getElem hj]
 rfl
theorem wOf_T {atoms:List Atom} {vals more:List Bool} (hv:vals.length = atoms.length) (hne:atoms ≠ []):(fun a=>valT (vals ++ more) (atomIdx atoms a + 1)) = wOf atoms vals:=by
 funext a
 obtain ⟨h1,h2⟩:=atomIdx_b atoms a
 rcases h2 with h2 | h2
 ·rcases Int.lt_or_le (atomIdx atoms a) 0 with h3 | h3
  ·have e:atomIdx atoms a = -1:=by omega
   have h0:0 < vals.length:=by
    rw [hv]
    cases atoms with
    | nil=>exact (hne rfl).elim
    | cons x xs=>simp
   rw [wOf,e]
   simp only [valT]
   show (vals ++ more).getD 0 false = vals.getD 0 false
   simp only [List.getD_eq_getElem?_getD,List.getElem?_append_left h0]
  ·obtain ⟨k,hk⟩:∃ k:Nat,atomIdx atoms a = k:=⟨(atomIdx atoms a).toNat,by omega⟩
   rw [wOf,hk]
   rw [hk] at h2
   exact valT_app (by rw [hv]; omega)
 ·exact (hne h2).elim
theorem okN_more {atoms:List Atom} {vals more:List Bool} {nodes:List Form} (hv:vals.length = atoms.length) (hm:more.length = nodes.length) (w:Atom → Bool):okN (valT (vals ++ more)) w atoms.length nodes = decide (more = nodes.map (holds w)):=by
 cases h:okN (valT (vals ++ more)) w atoms.length nodes
 ·symm
  rw [decide_eq_false_iff_not]
  rintro rfl
  have:=okN_of (v:=valT (vals ++ nodes.map (holds w))) (w:=w) (fs:=nodes) (m:=atoms.length) fun j hj=>by
   rw [valT_more hv (by simpa using hj)]
   simp
  rw [h] at this
  cases this
 ·symm
  rw [decide_eq_true_eq]
  have hg:=okN_get h
  refine List.ext_getElem (by simpa using hm) fun j h1 h2=>?_
  have:=hg j (by omega)
  rw [valT_more hv h1] at this
  rw [this]
  simp
theorem cnfIs_more {list:List Form} {atoms:List Atom} {vals more:List Bool} (h:formsAtoms list = some atoms) (hv:vals.length = atoms.length) (hne:atoms ≠ []) (hm:more.length = (list.flatMap nodesF).length) :
 cnfIs (cnfOf list) (vals ++ more) = (decide (more = (list.flatMap nodesF).map (holds (wOf atoms vals))) && list.all (holds (wOf atoms vals))):=by
 obtain ⟨h1,h2⟩:=cnfOf_T h (valT (vals ++ more))
 rw [cnfIs_T (cnfOf_ok list) (by rw [h1,List.length_append]; omega),h2,wOf_T hv hne,okN_more hv hm]
theorem cnfVals_len {list:List Form} {atoms:List Atom} {vals:List Bool} (h:formsAtoms list = some atoms) (hv:vals.length = atoms.length):((cnfVals list vals).length:Int) = (cnfOf list).many:=by
 obtain ⟨h1,_⟩:=cnfOf_T h (fun _=>true)
 rw [cnfVals_some h hv,h1,List.length_append,List.length_map]
 omega
theorem cnfIs_bent {list:List Form} {atoms:List Atom} {vals:List Bool} (h:formsAtoms list = some atoms) (hv:vals.length = atoms.length) (hne:atoms ≠ []) (i:Nat) (h1:atoms.length ≤ i) (h2:i < (cnfVals list vals).length):cnfIs (cnfOf list) ((cnfVals list vals).set i (!(cnfVals list vals)[i])) = false:=by
 have e:=cnfVals_some h hv
 generalize hb:(!(cnfVals list vals)[i]) = b
 have hb':b ≠ (cnfVals list vals)[i]:=by rw [← hb]; cases (cnfVals list vals)[i] <;> simp
 generalize hN:(list.flatMap nodesF).map (holds (wOf atoms vals)) = N at e
 have hl:i - vals.length < N.length:=by rw [e,List.length_append] at h2; omega
 have hset:(cnfVals list vals).set i b = vals ++ N.set (i - vals.length) b:=by
  rw [e,List.set_append_right _ _ (by omega)]
 rw [hset,cnfIs_more h hv hne (by rw [List.length_set,← hN]; simp),hN]
 have hne2:N.set (i - vals.length) b ≠ N:=by
  intro hh
  have h3:=congrArg (fun l=>l[i - vals.length]?) hh
  simp only [List.getElem?_set_self hl,List.getElem?_eq_getElem hl,Option.some.injEq] at h3
  have h4:(cnfVals list vals)[i] = N[i - vals.length]:=by
   have:(cnfVals list vals)[i]? = (vals ++ N)[i]?:=by rw [e]
   rw [List.getElem?_append_right (by omega),List.getElem?_eq_getElem hl,List.getElem?_eq_getElem h2] at this
   exact Option.some.inj this
  exact hb' (h3.trans h4.symm)
 rw [decide_eq_false hne2,Bool.false_and]
theorem formsAtoms_mem {list:List Form} {atoms:List Atom} (h:formsAtoms list = some atoms):∀ f ∈ list,isForm f = true ∧ inside atoms f:=fun f hf=>by
 obtain ⟨p1,p2,p3,p4⟩:=formsAtoms_parts h
 exact ⟨p2 f hf,by rw [p4]; exact forms_inside hf⟩
end Go.Mod
