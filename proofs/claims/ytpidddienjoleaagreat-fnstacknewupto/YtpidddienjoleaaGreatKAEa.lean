/-
  What the functions of chapters 10 to 13 compute, in plain Lean: clauses, unit propagation, logs, clause form, papers. No program is walked here. Plain laws on clauses: sorted and made unique, or put together one by one, they are one. No program is walked here. Plain laws on unit propagation: two ways to look at a clause are one; it ends. No program is walked here. Plain laws on clause form and papers. No program is walked here. Plain laws on clauses, going on: what is put together, the program's way and the reference's way. No program is walked here. Plain laws on clauses, going on: the program's way to look at clauses. No program is walked here. Plain laws on clause form, going on: parts of a formula by number. No program is walked here. Plain laws on papers. No program is walked here. Plain laws on sorting: one mark sinks to its place; what is made unique. No program is walked here. Plain laws on clause form, going on: the formulas of the new variables. No program is walked here. Marks: what is written into what shares nothing, in plain Lean. A step towards the exact laws. Stacks, in plain Lean. A step towards the exact laws.
-/
import Derived.Test.YtpidddienjoleaaGreatKAE
import Derived.Lib.SlicesCompact
set_option linter.unusedVariables false
set_option linter.unusedSimpArgs false
namespace Go.Mod
open Go.Eng
def clauseGo (many:Int):Option Int → List Int → Bool
 | _,[]=>true
 | p,l :: ls=>isMark l many && ((match p with | none=>true | some q=>decide (q.natAbs < l.natAbs)) && clauseGo many (some l) ls)
def clauseOk (c:List Int) (many:Int):Bool:=within many 0 60 && clauseGo many none c
def cnfOk (c:Cnf):Bool:=within c.many 0 60 && (decide (c.list.length ≤ 400) && c.list.all fun x=>clauseOk x c.many)
def put1:List Int → Int → Option (List Int)
 | [],n=>some [n]
 | x :: xs,n=>if x.natAbs < n.natAbs then (put1 xs n).map (x :: ·) else if x.natAbs = n.natAbs then (if x = n then some (x :: xs) else none) else some (n :: x :: xs)
def putAll:List Int → List Int → Option (List Int)
 | out,[]=>some out
 | out,n :: ns=>match put1 out n with
   | none=>none
   | some o=>putAll o ns
def clauseOf (list:List Int):Option (List Int):=if list.all fun l=>isMark l 60 then putAll [] list else none
def unit (put c:List Int):Int × Bool:=
 if c.any put.contains then (0,false) else match c.filter (fun l=>!put.contains (-l)) with
  | []=>(0,true)
  | [l]=>(l,false)
  | _=>(0,false)
def scan (put:List Int):List (List Int) → Int × Bool
 | []=>(0,false)
 | c :: cs=>if (unit put c).2 then (0,true) else if (unit put c).1 = 0 then scan put cs else ((unit put c).1,false)
def unitsGo (list:List (List Int)):Nat → List Int → List Int × Bool
 | 0,put=>(put,false)
 | n + 1,put=>if (scan put list).2 then (put,true) else if (scan put list).1 = 0 then (put,false) else unitsGo list n (put ++ [(scan put list).1])
def units (list:List (List Int)) (put:List Int):List Int × Bool:=unitsGo list (61 - put.length) put
def cnfRup (c:Cnf) (clause:List Int):Bool:=cnfOk c && (clauseOk clause c.many && (units c.list (clause.map fun l=>-l)).2)
def logGo (many:Int):List (List Int) → List (List Int) → Bool
 | _,[]=>true
 | list,x :: xs=>cnfRup ⟨many,list⟩ x && logGo many (list ++ [x]) xs
def logOk (c:Cnf) (log:List (List Int)):Bool:=cnfOk c && (decide (log.length ≤ 130) && (decide (c.list.length + log.length ≤ 400) && logGo c.many c.list log))
def logEnds (log:List (List Int)):Bool:=match log.getLast? with | some []=>true | _=>false
def addC (c:Cnf) (list:List Int):Cnf:=match clauseOf list with | none=>c | some x=>⟨c.many,c.list ++ [x]⟩
def orC (c:Cnf) (v a b:Int):Cnf:=addC (addC (addC c [v,-a]) [v,-b]) [-v,a,b]
def iffC (c:Cnf) (v a b:Int):Cnf:=addC (addC (addC (addC c [-v,-a,b]) [-v,a,-b]) [v,a,b]) [v,-a,-b]
def nodeC (k:Int) (c:Cnf) (v a b:Int):Cnf:=if k = 3 then orC c (-v) (-a) (-b) else if k = 4 then orC c v a b else if k = 5 then orC c v (-a) b else iffC c v a b
mutual
def formC (atoms:List Atom):Form → Cnf → Cnf × Int
 | .mk k l ks,c=>
   if k = 1 then (c,if l.no then -(atomIdx atoms l.atom + 1) else atomIdx atoms l.atom + 1) else
   if k = 2 then ((formCs atoms ks c).1,-((formCs atoms ks c).2.getD 0 0)) else
   (nodeC k ⟨(formCs atoms ks c).1.many + 1,(formCs atoms ks c).1.list⟩ ((formCs atoms ks c).1.many + 1) ((formCs atoms ks c).2.getD 0 0) ((formCs atoms ks c).2.getD 1 0),(formCs atoms ks c).1.many + 1)
def formCs (atoms:List Atom):List Form → Cnf → Cnf × List Int
 | [],c=>(c,[])
 | t :: ts,c=>((formCs atoms ts (formC atoms t c).1).1,(formC atoms t c).2 :: (formCs atoms ts (formC atoms t c).1).2)
end
def cnfGo (atoms:List Atom):List Form → Cnf → Cnf
 | [],c=>c
 | f :: fs,c=>cnfGo atoms fs (addC (formC atoms f c).1 [(formC atoms f c).2])
def cnf0:Cnf:=⟨0,[]⟩
def cnfOf (list:List Form):Cnf:=match formsAtoms list with | none=>cnf0 | some atoms=>cnfGo atoms list ⟨atoms.length,[]⟩
def lemsGo (c:Cnf):List Lemma → Cnf
 | []=>c
 | l :: ls=>lemsGo (addC c (l.marks.map fun m=>-m)) ls
def paperCnf (list:List Form) (p:Paper):Cnf:=match formsAtoms list with
 | none=>cnf0
 | some atoms=>if decide (p.lemmas.length ≤ 64) && p.lemmas.all (fun l=>isSelection l.marks atoms.length) then lemsGo (cnfOf list) p.lemmas else cnf0
def paperOk (s:Sig) (list:List Form) (p:Paper):Bool:=
 formsOk s list && (decide (p.lemmas.length ≤ 64) && (p.lemmas.all (lemmaOk s list) && (logOk (paperCnf list p) p.log && logEnds p.log)))
def noForm (f:Form):Form:=.mk 2 lit0 [f]
def followOk (s:Sig) (list:List Form) (f:Form) (p:Paper):Bool:=paperOk s (list ++ [noForm f]) p
end Go.Mod
namespace Go.Mod
open Go.Eng
def Inc (l:List Int):Prop:=l.Pairwise fun a b=>a.natAbs < b.natAbs
theorem inc_ext:∀ {a b:List Int},Inc a → Inc b → (∀ x,x ∈ a ↔ x ∈ b) → a = b
 | [],[],_,_,_=>rfl
 | [],y :: ys,_,_,h=>by have:=(h y).2 (by simp); simp at this
 | x :: xs,[],_,_,h=>by have:=(h x).1 (by simp); simp at this
 | x :: xs,y :: ys,ha,hb,h=>by
   obtain ⟨a1,a2⟩:=List.pairwise_cons.1 ha
   obtain ⟨b1,b2⟩:=List.pairwise_cons.1 hb
   have e:x = y:=by
    rcases List.mem_cons.1 ((h x).1 (by simp)) with e | e
    ·exact e
    ·rcases List.mem_cons.1 ((h y).2 (by simp)) with e2 | e2
     ·exact e2.symm
     ·have:=b1 x e
      have:=a1 y e2
      omega
   subst e
   congr 1
   refine inc_ext a2 b2 fun z=>?_
   constructor
   ·intro hz
    rcases List.mem_cons.1 ((h z).1 (List.mem_cons_of_mem _ hz)) with e | e
    ·rw [e] at hz; have:=a1 x hz; omega
    ·exact e
   ·intro hz
    rcases List.mem_cons.1 ((h z).2 (List.mem_cons_of_mem _ hz)) with e | e
    ·rw [e] at hz; have:=b1 x hz; omega
    ·exact e
theorem put1_none:∀ {l:List Int} {n:Int},Inc l → n ≠ 0 → -n ∈ l → put1 l n = none
 | [],_,_,_,h=>by simp at h
 | x :: xs,n,hi,hn,h=>by
   obtain ⟨a1,a2⟩:=List.pairwise_cons.1 hi
   rcases List.mem_cons.1 h with e | e
   ·have h1:¬ x.natAbs < n.natAbs:=by omega
    have h2:x.natAbs = n.natAbs:=by omega
    have h3:¬ x = n:=by omega
    rw [put1,if_neg h1,if_pos h2,if_neg h3]
   ·have:=a1 _ e
    have h1:x.natAbs < n.natAbs:=by omega
    simp only [put1,h1,if_true,put1_none a2 hn e,Option.map_none]
theorem put1_some:∀ {l:List Int} {n:Int},Inc l → -n ∉ l → ∃ o,put1 l n = some o ∧ Inc o ∧ ∀ x,x ∈ o ↔ x = n ∨ x ∈ l
 | [],n,_,_=>⟨[n],rfl,List.pairwise_singleton _ _,by simp⟩
 | x :: xs,n,hi,hn=>by
   obtain ⟨a1,a2⟩:=List.pairwise_cons.1 hi
   rcases Nat.lt_trichotomy x.natAbs n.natAbs with h1 | h1 | h1
   ·obtain ⟨o,e,i1,i2⟩:=put1_some (n:=n) a2 (fun hh=>hn (List.mem_cons_of_mem _ hh))
    refine ⟨x :: o,by simp only [put1,h1,if_true,e,Option.map_some],List.pairwise_cons.2 ⟨fun y hy=>?_,i1⟩,fun z=>?_⟩
    ·rcases (i2 y).1 hy with e | e
     ·rw [e]; exact h1
     ·exact a1 y e
    ·rw [List.mem_cons,i2,List.mem_cons]
     constructor
     ·rintro (h | h | h)
      ·exact .inr (.inl h)
      ·exact .inl h
      ·exact .inr (.inr h)
     ·rintro (h | h | h)
      ·exact .inr (.inl h)
      ·exact .inl h
      ·exact .inr (.inr h)
   ·have hx:x = n:=by
     rcases Int.natAbs_eq_natAbs_iff.1 h1 with e | e
     ·exact e
     ·exact absurd (by simp [e]) hn
    have h2:¬ x.natAbs < n.natAbs:=by omega
    refine ⟨x :: xs,by rw [put1,if_neg h2,if_pos h1,if_pos hx],hi,fun z=>?_⟩
    rw [hx,List.mem_cons]
    constructor
    ·intro h; exact .inr h
    ·rintro (h | h)
     ·exact .inl h
     ·exact h
   ·have h2:¬ x.natAbs < n.natAbs:=by omega
    have h3:¬ x.natAbs = n.natAbs:=by omega
    refine ⟨n :: x :: xs,by simp only [put1,h2,h3,if_false],List.pairwise_cons.2 ⟨fun y hy=>?_,hi⟩,fun z=>by rw [List.mem_cons]⟩
    rcases List.mem_cons.1 hy with e | e
    ·rw [e]; exact h1
    ·have:=a1 y e; omega
def Fair (l:List Int):Prop:=∀ x ∈ l,-x ∉ l
theorem putAll_some:∀ {ns out:List Int},Inc out → (∀ x ∈ ns,-x ∉ ns ∧ -x ∉ out) → ∃ o,putAll out ns = some o ∧ Inc o ∧ ∀ x,x ∈ o ↔ x ∈ ns ∨ x ∈ out
 | [],out,hi,_=>⟨out,rfl,hi,by simp⟩
 | n :: ns,out,hi,h=>by
   obtain ⟨h1,h2⟩:=h n (by simp)
   obtain ⟨o,e,i1,i2⟩:=put1_some (n:=n) hi h2
   obtain ⟨o2,e2,j1,j2⟩:=putAll_some (ns:=ns) i1 (fun x hx=>by
    obtain ⟨q1,q2⟩:=h x (List.mem_cons_of_mem _ hx)
    refine ⟨fun hh=>q1 (List.mem_cons_of_mem _ hh),fun hh=>?_⟩
    rcases (i2 (-x)).1 hh with e | e
    ·exact q1 (by rw [e]; simp)
    ·exact q2 e)
   refine ⟨o2,by simp only [putAll,e,e2],j1,fun z=>?_⟩
   rw [j2,i2,List.mem_cons]
   constructor
   ·rintro (h | h | h)
    ·exact .inl (.inr h)
    ·exact .inl (.inl h)
    ·exact .inr h
   ·rintro ((h | h) | h)
    ·exact .inr (.inl h)
    ·exact .inl h
    ·exact .inr (.inr h)
theorem putAll_none:∀ {ns out:List Int},Inc out → (∀ x ∈ ns,x ≠ 0) → (∃ x ∈ ns,-x ∈ ns ∨ -x ∈ out) → putAll out ns = none
 | [],_,_,_,⟨x,hx,_⟩=>by simp at hx
 | n :: ns,out,hi,h0,h=>by
   rcases Classical.em (-n ∈ out) with hn | hn
   ·simp only [putAll,put1_none hi (h0 n (by simp)) hn]
   ·obtain ⟨o,e,i1,i2⟩:=put1_some (n:=n) hi hn
    simp only [putAll,e]
    refine putAll_none i1 (fun x hx=>h0 x (List.mem_cons_of_mem _ hx)) ?_
    have hn0:=h0 n (by simp)
    obtain ⟨x,hx,hh⟩:=h
    rcases List.mem_cons.1 hx with ex | ex
    ·rw [ex] at hh
     rcases hh with hh | hh
     ·rcases List.mem_cons.1 hh with e2 | e2
      ·omega
      ·exact ⟨-n,e2,.inr ((i2 _).2 (.inl (by omega)))⟩
     ·exact absurd hh hn
    ·rcases hh with hh | hh
     ·rcases List.mem_cons.1 hh with e2 | e2
      ·exact ⟨x,ex,.inr ((i2 _).2 (.inl e2))⟩
      ·exact ⟨x,ex,.inl e2⟩
     ·exact ⟨x,ex,.inr ((i2 _).2 (.inr hh))⟩
def ins (l:List Int) (n:Int):List Int:=(l.filter fun x=>decide (x.natAbs ≤ n.natAbs)) ++ n :: l.filter fun x=>decide (n.natAbs < x.natAbs)
def isort (l:List Int):List Int:=l.foldl ins []
def Srt (l:List Int):Prop:=l.Pairwise fun a b=>a.natAbs ≤ b.natAbs
theorem ins_srt {l:List Int} {n:Int} (h:Srt l):Srt (ins l n):=by
 unfold ins Srt
 refine List.pairwise_append.2 ⟨h.filter _,List.pairwise_cons.2 ⟨fun y hy=>?_,h.filter _⟩,fun a ha b hb=>?_⟩
 ·have:=(List.mem_filter.1 hy).2
  simp only [decide_eq_true_eq] at this
  omega
 ·have h1:=(List.mem_filter.1 ha).2
  simp only [decide_eq_true_eq] at h1
  rcases List.mem_cons.1 hb with e | e
  ·rw [e]; exact h1
  ·have h2:=(List.mem_filter.1 e).2
   simp only [decide_eq_true_eq] at h2
   omega
theorem ins_mem {l:List Int} {n x:Int}:x ∈ ins l n ↔ x = n ∨ x ∈ l:=by
 unfold ins
 rw [List.mem_append,List.mem_cons,List.mem_filter,List.mem_filter]
 simp only [decide_eq_true_eq]
 constructor
 ·rintro (h | h | h)
  ·exact .inr h.1
  ·exact .inl h
  ·exact .inr h.1
 ·rintro (h | h)
  ·exact .inr (.inl h)
  ·rcases Nat.lt_or_ge n.natAbs x.natAbs with q | q
   ·exact .inr (.inr ⟨h,q⟩)
   ·exact .inl ⟨h,q⟩
theorem isort_go:∀ {l acc:List Int},Srt acc → Srt (l.foldl ins acc) ∧ ∀ x,x ∈ l.foldl ins acc ↔ x ∈ l ∨ x ∈ acc
 | [],acc,h=>⟨h,by simp⟩
 | n :: l,acc,h=>by
   obtain ⟨h1,h2⟩:=isort_go (l:=l) (ins_srt (n:=n) h)
   refine ⟨h1,fun x=>?_⟩
   rw [List.foldl_cons,h2,ins_mem,List.mem_cons]
   constructor
   ·rintro (h | h | h)
    ·exact .inl (.inr h)
    ·exact .inl (.inl h)
    ·exact .inr h
   ·rintro ((h | h) | h)
    ·exact .inr (.inl h)
    ·exact .inl h
    ·exact .inr (.inr h)
theorem isort_srt (l:List Int):Srt (isort l):=(isort_go (l:=l) (acc:=[]) List.Pairwise.nil).1
theorem isort_mem (l:List Int) (x:Int):x ∈ isort l ↔ x ∈ l:=by
 have:=(isort_go (l:=l) (acc:=[]) List.Pairwise.nil).2 x
 rw [isort,this]; simp
def compact:List Int → List Int
 | []=>[]
 | [x]=>[x]
 | x :: y :: l=>if x = y then compact (y :: l) else x :: compact (y :: l)
theorem compact_mem:∀ (l:List Int) (x:Int),x ∈ compact l ↔ x ∈ l
 | [],_=>by simp [compact]
 | [a],_=>by simp [compact]
 | a :: b :: l,x=>by
   have ih:=compact_mem (b :: l) x
   unfold compact
   split
   ·rename_i e
    rw [ih,e]; simp
   ·rw [List.mem_cons,ih,List.mem_cons (a:=x) (b:=a)]
theorem compact_inc:∀ {l:List Int},Srt l → (∀ x ∈ l,∀ y ∈ l,x.natAbs = y.natAbs → x = y) → Inc (compact l)
 | [],_,_=>List.Pairwise.nil
 | [a],_,_=>List.pairwise_singleton _ _
 | a :: b :: l,hs,hu=>by
   obtain ⟨h1,h2⟩:=List.pairwise_cons.1 hs
   have ih:=compact_inc (l:=b :: l) h2 (fun x hx y hy=>hu x (List.mem_cons_of_mem _ hx) y (List.mem_cons_of_mem _ hy))
   unfold compact
   split
   ·exact ih
   ·rename_i e
    refine List.pairwise_cons.2 ⟨fun y hy=>?_,ih⟩
    rw [compact_mem] at hy
    have hle:=h1 y hy
    rcases Nat.lt_or_ge a.natAbs y.natAbs with q | q
    ·exact q
    ·have e1:=hu a (by simp) y (List.mem_cons_of_mem _ hy) (by omega)
     have hb:=h1 b (by simp)
     have hyb:b.natAbs ≤ y.natAbs:=by
      rcases List.mem_cons.1 hy with e2 | e2
      ·rw [e2]; exact Nat.le_refl _
      ·exact (List.pairwise_cons.1 h2).1 y e2
     have:=hu a (by simp) b (by simp) (by omega)
     exact absurd this e
theorem clauseOf_fair {l:List Int} (h0:∀ x ∈ l,x ≠ 0) (hf:Fair l):putAll [] l = some (compact (isort l)):=by
 obtain ⟨o,e,i1,i2⟩:=putAll_some (ns:=l) (out:=[]) List.Pairwise.nil (fun x hx=>⟨hf x hx,by simp⟩)
 rw [e]
 congr 1
 refine inc_ext i1 (compact_inc (isort_srt l) fun x hx y hy hxy=>?_) fun x=>?_
 ·rw [isort_mem] at hx hy
  rcases Int.natAbs_eq_natAbs_iff.1 hxy with e | e
  ·exact e
  ·exact absurd (by rw [e] at hx; exact hx) (hf y hy)
 ·rw [i2,compact_mem,isort_mem]; simp
end Go.Mod
namespace Go.Mod
open Go.Eng
def PutOk (put:List Int):Prop:=put.Pairwise (fun a b=>a.natAbs ≠ b.natAbs) ∧ ∀ x ∈ put,x ≠ 0 ∧ x.natAbs ≤ 60
theorem put_len {put:List Int} (h:PutOk put):put.length ≤ 60:=by
 have h1:=pigeon 60 (put.map fun m=>m.natAbs - 1) (by
  rw [List.pairwise_map]
  refine List.Pairwise.imp_of_mem ?_ h.1
  intro a b ha hb hab e
  have:=h.2 a ha
  have:=h.2 b hb
  exact hab (by omega)) (fun x hx=>by
  obtain ⟨m,hm,rfl⟩:=List.mem_map.1 hx
  have:=h.2 m hm
  omega)
 rwa [List.length_map] at h1
theorem put_snoc {put:List Int} {l:Int} (h:PutOk put) (h0:l ≠ 0) (h1:l.natAbs ≤ 60) (h2:l ∉ put) (h3:-l ∉ put):PutOk (put ++ [l]):=by
 refine ⟨List.pairwise_append.2 ⟨h.1,List.pairwise_singleton _ _,fun a ha b hb=>?_⟩,fun x hx=>?_⟩
 ·rw [List.mem_singleton.1 hb]
  intro e
  rcases Int.natAbs_eq_natAbs_iff.1 e with e | e
  ·exact h2 (by rw [← e]; exact ha)
  ·exact h3 (by rw [← e]; exact ha)
 ·rcases List.mem_append.1 hx with hx | hx
  ·exact h.2 x hx
  ·rw [List.mem_singleton.1 hx]; exact ⟨h0,h1⟩
theorem unit_new {put c:List Int} (h:(unit put c).1 ≠ 0):(unit put c).2 = false ∧ (unit put c).1 ∈ c ∧ (unit put c).1 ∉ put ∧ -(unit put c).1 ∉ put:=by
 unfold unit at h ⊢
 split at h
 ·exact absurd rfl h
 ·rename_i ha
  rw [if_neg ha]
  split at h
  ·exact absurd rfl h
  ·rename_i l hl
   have hm:l ∈ c.filter (fun l=>!put.contains (-l)):=by rw [hl]; simp
   obtain ⟨m1,m2⟩:=List.mem_filter.1 hm
   refine ⟨rfl,m1,fun hh=>ha (List.any_eq_true.2 ⟨l,m1,List.contains_iff_mem.2 hh⟩),fun hh=>?_⟩
   simp at m2
   exact m2 hh
  ·exact absurd rfl h
theorem scan_new {put:List Int}:∀ {list:List (List Int)},(scan put list).1 ≠ 0 → ∃ c ∈ list,(scan put list).1 ∈ c ∧ (scan put list).1 ∉ put ∧ -(scan put list).1 ∉ put
 | [],h=>absurd rfl h
 | c :: cs,h=>by
   rcases Classical.em ((unit put c).2 = true) with h1 | h1
   ·simp only [scan,h1,if_true] at h; exact absurd rfl h
   ·rcases Classical.em ((unit put c).1 = 0) with h2 | h2
    ·simp only [scan,h1,h2,if_true,if_false] at h ⊢
     obtain ⟨d,hd,hh⟩:=scan_new h
     exact ⟨d,List.mem_cons_of_mem _ hd,hh⟩
    ·simp only [scan,h1,h2,if_false]
     obtain ⟨_,q⟩:=unit_new h2
     exact ⟨c,by simp,q⟩
theorem units_step {list:List (List Int)} {put:List Int} (h:put.length ≤ 60):units list put = if (scan put list).2 then (put,true) else if (scan put list).1 = 0 then (put,false) else units list (put ++ [(scan put list).1]):=by
 have e:61 - put.length = (61 - (put ++ [(scan put list).1]).length) + 1:=by simp; omega
 unfold units
 rw [e,unitsGo]
theorem scan_drop {put:List Int} {list:List (List Int)} {i:Nat} (h:i < list.length):scan put (list.drop i) = if (unit put list[i]).2 then (0,true) else if (unit put list[i]).1 = 0 then scan put (list.drop (i + 1)) else ((unit put list[i]).1,false):=by
 rw [List.drop_eq_getElem_cons h,scan]
theorem scan_end {put:List Int} {list:List (List Int)} {i:Nat} (h:list.length ≤ i):scan put (list.drop i) = (0,false):=by
 rw [List.drop_of_length_le h,scan]
def leftGo (put:List Int):List Int → Int → Int → Int × Int
 | [],n,left=>(n,left)
 | l :: ls,n,left=>if at0 put l = 1 then (2,0) else if at0 put l = 0 then leftGo put ls (n + 1) (if n = 0 then l else left) else leftGo put ls n left
def left (put c:List Int):Int × Int:=leftGo put c 0 0
theorem isMark_iff {l many:Int}:isMark l many = true ↔ l ≠ 0 ∧ -many ≤ l ∧ l ≤ many:=by
 simp only [isMark,Bool.and_eq_true,decide_eq_true_eq,withinB_iff]
theorem scan_ok {put:List Int} {list:List (List Int)} (hp:PutOk put) (hc:∀ x ∈ list,∀ l ∈ x,l ≠ 0 ∧ l.natAbs ≤ 60) (h:(scan put list).1 ≠ 0):PutOk (put ++ [(scan put list).1]):=by
 obtain ⟨c,hc1,h1,h2,h3⟩:=scan_new h
 have:=hc c hc1 _ h1
 exact put_snoc hp this.1 this.2 h2 h3
end Go.Mod
namespace Go.Mod
open Go.Eng
theorem formC_eq (atoms:List Atom) (t:Form) (c:Cnf):formC atoms t c =
 if t.kind = 1 then (c,if t.lit.no then -(atomIdx atoms t.lit.atom + 1) else atomIdx atoms t.lit.atom + 1) else
 if t.kind = 2 then ((formCs atoms t.kids c).1,-((formCs atoms t.kids c).2.getD 0 0)) else
 (nodeC t.kind ⟨(formCs atoms t.kids c).1.many + 1,(formCs atoms t.kids c).1.list⟩ ((formCs atoms t.kids c).1.many + 1) ((formCs atoms t.kids c).2.getD 0 0) ((formCs atoms t.kids c).2.getD 1 0),(formCs atoms t.kids c).1.many + 1):=by
 cases t; rfl
theorem addC_many (c:Cnf) (l:List Int):(addC c l).many = c.many:=by unfold addC; split <;> rfl
theorem addC_len (c:Cnf) (l:List Int):(addC c l).list.length ≤ c.list.length + 1:=by unfold addC; split <;> simp
theorem orC_many (c:Cnf) (v a b:Int):(orC c v a b).many = c.many:=by simp only [orC,addC_many]
theorem iffC_many (c:Cnf) (v a b:Int):(iffC c v a b).many = c.many:=by simp only [iffC,addC_many]
theorem nodeC_many (k:Int) (c:Cnf) (v a b:Int):(nodeC k c v a b).many = c.many:=by
 unfold nodeC
 split
 ·exact orC_many _ _ _ _
 ·split
  ·exact orC_many _ _ _ _
  ·split
   ·exact orC_many _ _ _ _
   ·exact iffC_many _ _ _ _
theorem orC_len (c:Cnf) (v a b:Int):(orC c v a b).list.length ≤ c.list.length + 4:=by
 unfold orC
 have h1:=addC_len (addC (addC c [v,-a]) [v,-b]) [-v,a,b]
 have h2:=addC_len (addC c [v,-a]) [v,-b]
 have h3:=addC_len c [v,-a]
 omega
theorem iffC_len (c:Cnf) (v a b:Int):(iffC c v a b).list.length ≤ c.list.length + 4:=by
 unfold iffC
 have h1:=addC_len (addC (addC (addC c [-v,-a,b]) [-v,a,-b]) [v,a,b]) [v,-a,-b]
 have h2:=addC_len (addC (addC c [-v,-a,b]) [-v,a,-b]) [v,a,b]
 have h3:=addC_len (addC c [-v,-a,b]) [-v,a,-b]
 have h4:=addC_len c [-v,-a,b]
 omega
theorem nodeC_len (k:Int) (c:Cnf) (v a b:Int):(nodeC k c v a b).list.length ≤ c.list.length + 4:=by
 unfold nodeC
 split
 ·exact orC_len _ _ _ _
 ·split
  ·exact orC_len _ _ _ _
  ·split
   ·exact orC_len _ _ _ _
   ·exact iffC_len _ _ _ _
mutual
theorem formC_grow:∀ (t:Form) (d:Nat) (atoms:List Atom) (c:Cnf),formShape t d = true → c.many ≤ (formC atoms t c).1.many ∧ (formC atoms t c).1.many ≤ c.many + formMany t d ∧ (formC atoms t c).1.list.length ≤ c.list.length + 4 * formMany t d
 | .mk k l ks,0,_,_,h=>by simp [formShape] at h
 | .mk k l ks,d + 1,atoms,c,h=>by
   simp only [formShape,Bool.and_eq_true] at h
   have ih:=formCs_grow ks d atoms c h.2
   simp only [formC,formMany]
   split
   ·simp only; omega
   ·split
    ·simp only; omega
    ·simp only [nodeC_many]
     have:=nodeC_len k ⟨(formCs atoms ks c).1.many + 1,(formCs atoms ks c).1.list⟩ ((formCs atoms ks c).1.many + 1) ((formCs atoms ks c).2.getD 0 0) ((formCs atoms ks c).2.getD 1 0)
     simp only at this
     omega
theorem formCs_grow:∀ (ts:List Form) (d:Nat) (atoms:List Atom) (c:Cnf),formShapes ts d = true → c.many ≤ (formCs atoms ts c).1.many ∧ (formCs atoms ts c).1.many ≤ c.many + formManys ts d ∧ (formCs atoms ts c).1.list.length ≤ c.list.length + 4 * formManys ts d
 | [],_,_,c,_=>by simp [formCs,formManys]
 | t :: ts,d,atoms,c,h=>by
   simp only [formShapes,Bool.and_eq_true] at h
   have h1:=formC_grow t d atoms c h.1
   have h2:=formCs_grow ts d atoms (formC atoms t c).1 h.2
   simp only [formCs,formManys]
   omega
end
theorem formCs_one (atoms:List Atom) (t:Form) (c:Cnf):formCs atoms [t] c = ((formC atoms t c).1,[(formC atoms t c).2]):=rfl
theorem formC_mark:∀ (t:Form) (d:Nat) (atoms:List Atom) (c:Cnf),formShape t d = true → inside atoms t → (atoms.length:Int) ≤ c.many → 0 ≤ c.many → (formC atoms t c).2 ≠ 0 ∧ -(formC atoms t c).1.many ≤ (formC atoms t c).2 ∧ (formC atoms t c).2 ≤ (formC atoms t c).1.many:=by
 refine Form.ind fun k l ks ih d atoms c h hin hc h0=>?_
 cases d with
 | zero=>simp [formShape] at h
 | succ d=>
 have hg:=formC_grow (.mk k l ks) (d + 1) atoms c h
 have hk:=formShape_kids h
 rw [formC_eq] at hg ⊢
 rcases Classical.em ((Form.mk k l ks).kind = 1) with h1 | h1
 ·rw [if_pos h1] at hg ⊢
  have hm:=inside_lit hin h1
  have h2:=atomIdx_nn.2 hm
  have h3:=atomIdx_lt hm
  simp only
  split <;> omega
 ·rw [if_neg h1] at hg ⊢
  rcases Classical.em ((Form.mk k l ks).kind = 2) with h2 | h2
  ·rw [if_pos h2] at hg ⊢
   have hlen:(Form.mk k l ks).kids.length = 1:=by
    have:=hk.1
    simp only [formHead,Bool.and_eq_true,decide_eq_true_eq] at this
    have e:=this.1
    rw [h2] at e
    have e2:kidsOf 2 = 1:=rfl
    omega
   obtain ⟨u,hu⟩:=List.length_eq_one_iff.1 hlen
   have hum:u ∈ (Form.mk k l ks).kids:=by rw [hu]; simp
   have hku:=ih u hum d atoms c (formShapes_mem hk.2.2 u hum) (inside_kids hin h1 u hum) hc h0
   rw [hu,formCs_one]
   simp only [List.getD_cons_zero]
   omega
  ·rw [if_neg h2] at hg ⊢
   have hgs:=formCs_grow (Form.mk k l ks).kids d atoms c hk.2.2
   simp only [nodeC_many]
   omega
end Go.Mod
namespace Go.Mod
open Go.Eng
theorem clauseOf_bad {l:List Int} (h:(l.all fun x=>isMark x 60) = false):clauseOf l = none:=by
 unfold clauseOf; rw [h]; rfl
theorem clauseOf_good {l:List Int} (h:(l.all fun x=>isMark x 60) = true):clauseOf l = putAll [] l:=by
 unfold clauseOf; rw [h]; rfl
theorem isMark60 {l:List Int} (h:(l.all fun x=>isMark x 60) = true):∀ x ∈ l,x ≠ 0 ∧ x.natAbs ≤ 60:=by
 intro x hx
 have:=isMark_iff.1 (List.all_eq_true.1 h x hx)
 omega
def fairB (l:List Int):Bool:=l.all fun x=>isMark x 60 && !l.contains (-x)
theorem clauseOf_fairB (l:List Int):clauseOf l = if fairB l then some (compact (isort l)) else none:=by
 rcases Classical.em ((l.all fun x=>isMark x 60) = true) with h1 | h1
 ·have h0:=isMark60 h1
  rw [clauseOf_good h1]
  rcases Classical.em (fairB l = true) with h2 | h2
  ·rw [if_pos h2]
   refine clauseOf_fair (fun x hx=>(h0 x hx).1) fun x hx hn=>?_
   have:=List.all_eq_true.1 h2 x hx
   simp at this
   exact this.2 hn
  ·rw [if_neg h2]
   refine putAll_none List.Pairwise.nil (fun x hx=>(h0 x hx).1) ?_
   have h3:∃ x ∈ l,¬ (isMark x 60 && !l.contains (-x)) = true:=by
    refine Classical.byContradiction fun hh=>h2 (List.all_eq_true.2 fun x hx=>?_)
    exact Classical.byContradiction fun h4=>hh ⟨x,hx,h4⟩
   obtain ⟨x,hx,hh⟩:=h3
   have hm:=List.all_eq_true.1 h1 x hx
   rw [hm,Bool.true_and] at hh
   cases hc:l.contains (-x)
   ·rw [hc] at hh; exact absurd rfl hh
   ·exact ⟨x,hx,.inl (List.contains_iff_mem.1 hc)⟩
 ·have h2:(l.all fun x=>isMark x 60) = false:=by simpa using h1
  rw [clauseOf_bad h2]
  have h3:¬ fairB l = true:=fun hh=>h1 (List.all_eq_true.2 fun x hx=>by
   have:=List.all_eq_true.1 hh x hx
   simp only [Bool.and_eq_true] at this
   exact this.1)
  rw [if_neg h3]
end Go.Mod
namespace Go.Mod
open Go.Eng
def prevI (c:List Int) (i:Nat):Option Int:=if i = 0 then none else c[i - 1]?
theorem prevI_succ {c:List Int} {i:Nat} (h:i < c.length):prevI c (i + 1) = some c[i]:=by simp [prevI,h]
theorem clauseGo_zero {many:Int} {c:List Int} {i:Nat} (h:i < c.length) (h0:i = 0):clauseGo many (prevI c i) (c.drop i) = (isMark c[i] many && clauseGo many (prevI c (i + 1)) (c.drop (i + 1))):=by
 rw [List.drop_eq_getElem_cons h,prevI_succ h]
 subst h0
 simp [prevI,clauseGo]
theorem clauseGo_succ {many:Int} {c:List Int} {i:Nat} (h:i < c.length) (h0:i ≠ 0) (h1:i - 1 < c.length):clauseGo many (prevI c i) (c.drop i) = (isMark c[i] many && (decide (c[i - 1].natAbs < c[i].natAbs) && clauseGo many (prevI c (i + 1)) (c.drop (i + 1)))):=by
 have e:prevI c i = some c[i - 1]:=by simp [prevI,h0,h1]
 rw [List.drop_eq_getElem_cons h,prevI_succ h,e]
 simp only [clauseGo]
def unitI (put:List Int):List Int → Int → Int → Int × Bool
 | [],f,n=>(if 1 < n then 0 else f,decide (n = 0))
 | l :: ls,f,n=>if put.contains l then (0,false) else if put.contains (-l) then unitI put ls f n else unitI put ls l (n + 1)
theorem unitI_eq (put:List Int):∀ (c:List Int) (f n:Int),0 ≤ n → unitI put c f n = if c.any put.contains then (0,false) else
 (if 1 < n + (c.filter fun l=>!put.contains (-l)).length then 0 else (c.filter fun l=>!put.contains (-l)).getLastD f,decide (n + (c.filter fun l=>!put.contains (-l)).length = 0))
 | [],f,n,h=>by simp [unitI]
 | l :: ls,f,n,h=>by
   rw [unitI,List.any_cons,List.filter_cons]
   cases h1:put.contains l
   ·cases h2:put.contains (-l)
    ·simp only [Bool.false_eq_true,if_false,Bool.false_or,Bool.not_false,if_true]
     rw [unitI_eq put ls l (n + 1) (by omega),List.length_cons,List.getLastD_cons]
     have e:n + 1 + ((ls.filter fun l=>!put.contains (-l)).length:Int) = n + (((ls.filter fun l=>!put.contains (-l)).length + 1:Nat):Int):=by omega
     rw [e]
    ·simp only [Bool.false_eq_true,if_false,Bool.false_or,Bool.not_true,if_true]
     exact unitI_eq put ls f n h
   ·simp
theorem unit_unitI (put c:List Int):unit put c = unitI put c 0 0:=by
 rw [unitI_eq put c 0 0 (by omega),unit]
 split
 ·rfl
 ·split
  ·rename_i h; rw [h]; rfl
  ·rename_i l h; rw [h]; rfl
  ·rename_i h1 h2
   cases hf:c.filter fun l=>!put.contains (-l) with
   | nil=>exact absurd hf h1
   | cons a t=>
     cases t with
     | nil=>exact absurd hf (h2 a)
     | cons b t=>
       have e:(1:Int) < 0 + ((a :: b :: t).length:Int):=by simp only [List.length_cons]; omega
       have e2:¬ (0 + ((a :: b :: t).length:Int) = 0):=by simp only [List.length_cons]; omega
       rw [if_pos e,decide_eq_false e2]
end Go.Mod
namespace Go.Mod
open Go.Eng
theorem formHead_arms {k:Int} {l:LitD} {ks:List Form} (h:formHead k l ks = true):(k = 1 ∧ ks.length = 0) ∨ (k = 2 ∧ ks.length = 1) ∨ ((k = 3 ∨ k = 4 ∨ k = 5 ∨ k = 6) ∧ ks.length = 2):=by
 simp only [formHead,Bool.and_eq_true,decide_eq_true_eq] at h
 have h1:=h.1
 unfold kidsOf at h1
 split at h1 <;> omega
theorem formCs_len1 {atoms:List Atom} {ks:List Form} {c:Cnf} (h:ks.length = 1):formCs atoms ks c = ((formC atoms ks[0] c).1,[(formC atoms ks[0] c).2]):=by
 match ks,h with
 | [u],_=>rfl
theorem formCs_len2 {atoms:List Atom} {ks:List Form} {c:Cnf} (h:ks.length = 2):formCs atoms ks c = ((formC atoms ks[1] (formC atoms ks[0] c).1).1,[(formC atoms ks[0] c).2,(formC atoms ks[1] (formC atoms ks[0] c).1).2]):=by
 match ks,h with
 | [u,v],_=>rfl
theorem formC_lit {atoms:List Atom} {t:Form} {c:Cnf} (h:t.kind = 1):formC atoms t c = (c,if t.lit.no then -(atomIdx atoms t.lit.atom + 1) else atomIdx atoms t.lit.atom + 1):=by
 rw [formC_eq,if_pos h]
theorem formC_not {atoms:List Atom} {t:Form} {c:Cnf} (h:t.kind = 2) (hl:t.kids.length = 1):formC atoms t c = ((formC atoms t.kids[0] c).1,-(formC atoms t.kids[0] c).2):=by
 rw [formC_eq,if_neg (by omega),if_pos h,formCs_len1 hl]
 rfl
def two (atoms:List Atom) (u v:Form) (c:Cnf):Cnf:=(formC atoms v (formC atoms u c).1).1
theorem formC_two {atoms:List Atom} {t:Form} {c:Cnf} (h1:t.kind ≠ 1) (h2:t.kind ≠ 2) (hl:t.kids.length = 2):formC atoms t c =
 (nodeC t.kind ⟨(formC atoms t.kids[1] (formC atoms t.kids[0] c).1).1.many + 1,(formC atoms t.kids[1] (formC atoms t.kids[0] c).1).1.list⟩ ((formC atoms t.kids[1] (formC atoms t.kids[0] c).1).1.many + 1) (formC atoms t.kids[0] c).2 (formC atoms t.kids[1] (formC atoms t.kids[0] c).1).2,(formC atoms t.kids[1] (formC atoms t.kids[0] c).1).1.many + 1):=by
 rw [formC_eq,if_neg h1,if_neg h2,formCs_len2 hl]
 rfl
end Go.Mod
namespace Go.Mod
open Go.Eng
theorem forms_inside {list:List Form} {f:Form} (h:f ∈ list):inside (withAtomss [] list) f:=fun u hu=>withAtomss_has list [] f h u hu
theorem cnfGo_drop {atoms:List Atom} {list:List Form} {c:Cnf} {i:Nat} (h:i < list.length):cnfGo atoms (list.drop i) c = cnfGo atoms (list.drop (i + 1)) (addC (formC atoms list[i] c).1 [(formC atoms list[i] c).2]):=by
 rw [List.drop_eq_getElem_cons h]; rfl
theorem lemsGo_drop {list:List Lemma} {c:Cnf} {i:Nat} (h:i < list.length):lemsGo c (list.drop i) = lemsGo (addC c (list[i].marks.map fun m=>-m)) (list.drop (i + 1)):=by
 rw [List.drop_eq_getElem_cons h]; rfl
theorem cnfOf_none {list:List Form} (h:formsAtoms list = none):cnfOf list = cnf0:=by unfold cnfOf; rw [h]
theorem cnfOf_some {list:List Form} {atoms:List Atom} (h:formsAtoms list = some atoms):cnfOf list = cnfGo atoms list ⟨atoms.length,[]⟩:=by unfold cnfOf; rw [h]
theorem formsAtoms_parts {list:List Form} {atoms:List Atom} (h:formsAtoms list = some atoms):list.length ≤ 5 ∧ (∀ f ∈ list,isForm f = true) ∧ atoms.length ≤ 6 ∧ atoms = withAtomss [] list:=by
 have e:=formsAtoms_eq list
 rcases Classical.em (list.length ≤ 5 ∧ list.all isForm = true ∧ (withAtomss [] list).length ≤ 6) with hc | hc
 ·rw [if_pos hc,h] at e
  have e2:=Option.some.inj e
  exact ⟨hc.1,List.all_eq_true.1 hc.2.1,by rw [e2]; exact hc.2.2,e2⟩
 ·rw [if_neg hc,h] at e
  cases e
theorem form_step {list:List Form} {atoms:List Atom} (h:formsAtoms list = some atoms) {i:Nat} (hi:i < list.length) {c:Cnf} (h1:(atoms.length:Int) ≤ c.many) (h2:c.many ≤ 6 + 31 * i) (h3:c.list.length ≤ 125 * i) :
 (formC atoms list[i] c).2 ≠ 0 ∧ -1000 ≤ (formC atoms list[i] c).2 ∧ (formC atoms list[i] c).2 ≤ 1000 ∧ formShape list[i] 5 = true ∧ inside atoms list[i] ∧ (formC atoms list[i] c).1.list.length ≤ 125 * i + 124 ∧
 (atoms.length:Int) ≤ (addC (formC atoms list[i] c).1 [(formC atoms list[i] c).2]).many ∧ (addC (formC atoms list[i] c).1 [(formC atoms list[i] c).2]).many ≤ 6 + 31 * ((i + 1:Nat):Int) ∧ (addC (formC atoms list[i] c).1 [(formC atoms list[i] c).2]).list.length ≤ 125 * (i + 1):=by
 obtain ⟨p1,p2,p3,p4⟩:=formsAtoms_parts h
 have hs:=isForm_shape (p2 list[i] (List.getElem_mem hi))
 have hin:inside atoms list[i]:=by rw [p4]; exact forms_inside (List.getElem_mem hi)
 have g:=formC_grow list[i] 5 atoms c hs.1
 have m:=formMany_le list[i] 5 hs.1
 have q:=formC_mark list[i] 5 atoms c hs.1 hin h1 (by omega)
 have a:=addC_len (formC atoms list[i] c).1 [(formC atoms list[i] c).2]
 rw [addC_many]
 refine ⟨q.1,by omega,by omega,hs.1,hin,by omega,by omega,by omega,by omega⟩
theorem cnfGo_bound:∀ (fs:List Form) (atoms:List Atom) (c:Cnf),(∀ f ∈ fs,isForm f = true) → (cnfGo atoms fs c).list.length ≤ c.list.length + 125 * fs.length
 | [],_,_,_=>by simp [cnfGo]
 | f :: fs,atoms,c,h=>by
   have hs:=isForm_shape (h f (by simp))
   have g:=formC_grow f 5 atoms c hs.1
   have m:=formMany_le f 5 hs.1
   have a:=addC_len (formC atoms f c).1 [(formC atoms f c).2]
   have ih:=cnfGo_bound fs atoms (addC (formC atoms f c).1 [(formC atoms f c).2]) fun x hx=>h x (by simp [hx])
   simp only [cnfGo,List.length_cons]
   omega
theorem cnfOf_len (list:List Form):(cnfOf list).list.length ≤ 625:=by
 cases h:formsAtoms list with
 | none=>rw [cnfOf_none h]; simp [cnf0]
 | some atoms=>
   obtain ⟨p1,p2,p3,p4⟩:=formsAtoms_parts h
   have:=cnfGo_bound list atoms ⟨atoms.length,[]⟩ p2
   rw [cnfOf_some h]
   simp only [List.length_nil] at this
   omega
theorem sel_len6 {marks:List Int} {many:Nat} (h:isSelection marks many = true) (hm1:many ≤ 6):marks.length ≤ 12:=by
 have hmem:=isSelection_mem h
 have hp:=(selGo_pair (many:=many) (before:=[]) h).1
 have h1:=pigeon 12 (marks.map fun m=>if m < 0 then (m + 6).toNat else (m + 5).toNat) (by
  rw [List.pairwise_map]
  refine List.Pairwise.imp_of_mem ?_ hp
  intro a b ha hb hab e
  have:=hmem a ha
  have:=hmem b hb
  split at e <;> split at e <;> exact hab (by omega)) (fun x hx=>by
  obtain ⟨m,hm,rfl⟩:=List.mem_map.1 hx
  have:=hmem m hm
  split <;> omega)
 rwa [List.length_map] at h1
end Go.Mod
namespace Go.Mod
open Go.Eng
def cmpA (a b:Int):Int:=if a < b then -1 else if b < a then 1 else 0
theorem cmpA_neg {a b:Int}:cmpA a b < 0 ↔ a < b:=by
 unfold cmpA
 split
 ·simp [*]
 ·split <;> simp [*]
def sk (p:List Int) (x:Int) (r:List Int) (j:Nat):List Int:=p.take j ++ x :: (p.drop j ++ r)
theorem ins_len (l:List Int) (n:Int):(ins l n).length = l.length + 1:=by
 unfold ins
 rw [List.length_append,List.length_cons]
 have h:∀ l:List Int,(l.filter fun x=>decide (x.natAbs ≤ n.natAbs)).length + (l.filter fun x=>decide (n.natAbs < x.natAbs)).length = l.length:=by
  intro l
  induction l with
  | nil=>rfl
  | cons a l ih=>
    simp only [List.filter_cons]
    rcases Nat.lt_or_ge n.natAbs a.natAbs with h | h
    ·have h2:¬ a.natAbs ≤ n.natAbs:=by omega
     simp only [h,h2,decide_true,decide_false,if_true,Bool.false_eq_true,if_false,List.length_cons]
     omega
    ·have h2:¬ n.natAbs < a.natAbs:=by omega
     simp only [h,h2,decide_true,decide_false,if_true,Bool.false_eq_true,if_false,List.length_cons]
     omega
 have:=h l
 omega
theorem isort_snoc (l:List Int) (x:Int):isort (l ++ [x]) = ins (isort l) x:=by unfold isort; rw [List.foldl_append]; rfl
theorem isort_len:∀ (l:List Int),(isort l).length = l.length:=by
 intro l
 have key:∀ (l acc:List Int),(l.foldl ins acc).length = acc.length + l.length:=by
  intro l
  induction l with
  | nil=>intro acc; rfl
  | cons a l ih=>intro acc; rw [List.foldl_cons,ih,ins_len,List.length_cons]; omega
 have:=key l []
 simpa [isort] using this
theorem ins_at {p:List Int} {x:Int} {j:Nat} (h1:∀ y ∈ p.take j,y.natAbs ≤ x.natAbs) (h2:∀ y ∈ p.drop j,x.natAbs < y.natAbs):ins p x = p.take j ++ x :: p.drop j:=by
 have e1:(p.filter fun y=>decide (y.natAbs ≤ x.natAbs)) = p.take j:=by
  conv=>lhs; rw [← List.take_append_drop j p]
  rw [List.filter_append,List.filter_eq_self.2 fun y hy=>decide_eq_true (h1 y hy),List.filter_eq_nil_iff.2 fun y hy=>by have:=h2 y hy; simp; omega,List.append_nil]
 have e2:(p.filter fun y=>decide (x.natAbs < y.natAbs)) = p.drop j:=by
  conv=>lhs; rw [← List.take_append_drop j p]
  rw [List.filter_append,List.filter_eq_nil_iff.2 fun y hy=>by have:=h1 y hy; simp; omega,List.filter_eq_self.2 fun y hy=>decide_eq_true (h2 y hy),List.nil_append]
 unfold ins
 rw [e1,e2]
theorem sk_top {p:List Int} (x:Int) (r:List Int) {j:Nat} (h:p.length ≤ j):sk p x r j = p ++ x :: r:=by
 unfold sk; rw [List.take_of_length_le h,List.drop_of_length_le h,List.nil_append]
theorem sk_len {p:List Int} (x:Int) (r:List Int) {j:Nat} (h:j ≤ p.length):(sk p x r j).length = p.length + 1 + r.length:=by
 unfold sk
 simp only [List.length_append,List.length_cons,List.length_take,List.length_drop]
 omega
theorem sk_at {p:List Int} (x:Int) (r:List Int) {j:Nat} (h:j ≤ p.length) (hs:j < (sk p x r j).length):(sk p x r j)[j] = x:=by
 have e:(sk p x r j)[j]? = some x:=by
  unfold sk
  rw [List.getElem?_append_right (by rw [List.length_take]; omega)]
  have e:j - (p.take j).length = 0:=by rw [List.length_take]; omega
  rw [e]; rfl
 rw [List.getElem?_eq_getElem hs] at e
 exact Option.some.inj e
theorem sk_before {p:List Int} (x:Int) (r:List Int) {j:Nat} (h:j ≤ p.length) (h0:0 < j) (hp:j - 1 < p.length) (hs:j - 1 < (sk p x r j).length):(sk p x r j)[j - 1] = p[j - 1]:=by
 have e:(sk p x r j)[j - 1]? = some p[j - 1]:=by
  unfold sk
  rw [List.getElem?_append_left (by rw [List.length_take]; omega),List.getElem?_take_of_lt (by omega),List.getElem?_eq_getElem hp]
 rw [List.getElem?_eq_getElem hs] at e
 exact Option.some.inj e
theorem sk_step {p:List Int} (x:Int) (r:List Int) {k:Nat} (hp:k < p.length):((sk p x r (k + 1)).set (k + 1) p[k]).set k x = sk p x r k:=by
 have e1:p.take (k + 1) = p.take k ++ [p[k]]:=by rw [List.take_add_one,List.getElem?_eq_getElem hp]; rfl
 have hk:(p.take k).length = k:=by rw [List.length_take]; omega
 have e2:k + 1 - k = 1:=by omega
 unfold sk
 rw [e1,List.append_assoc,List.set_append_right _ _ (by omega),hk,List.set_append_right _ _ (by omega),hk,List.drop_eq_getElem_cons hp,Nat.sub_self,e2]
 rfl
theorem sk_end {p:List Int} {x:Int} {r:List Int} {j:Nat} (hs:Srt p) (hd:∀ y ∈ p.drop j,x.natAbs < y.natAbs) (hj:∀ hj0:j - 1 < p.length,0 < j → (p[j - 1]).natAbs ≤ x.natAbs) (hji:j ≤ p.length):sk p x r j = ins p x ++ r:=by
 rw [ins_at (j:=j) (fun y hy=>?_) hd]
 ·unfold sk; simp
 ·obtain ⟨k,hk,rfl⟩:=List.mem_iff_getElem.1 hy
  rw [List.length_take] at hk
  rw [List.getElem_take]
  have h1:=hj (by omega) (by omega)
  rcases Nat.lt_or_ge k (j - 1) with h2 | h2
  ·have:=(List.pairwise_iff_getElem.1 hs) k (j - 1) (by omega) (by omega) h2
   omega
  ·have e2:k = j - 1:=by omega
   subst e2
   exact h1
theorem upTo_congr {d e:Array Int}:∀ m,(∀ j,j < m → d[j]! = e[j]!) → Lib.compactUpTo d m = Lib.compactUpTo e m
 | 0,_=>rfl
 | m + 1,h=>by
   rw [Lib.compactUpTo_succ,Lib.compactUpTo_succ,upTo_congr m (fun j hj=>h j (by omega)),h m (by omega)]
   have e1:Lib.keeps d m = Lib.keeps e m:=by
    unfold Lib.keeps
    rw [h m (by omega),h (m - 1) (by omega)]
   rw [e1]
theorem compact_snoc:∀ (zs:List Int) (x:Int),compact (zs ++ [x]) = if zs.getLast? = some x then compact zs else compact zs ++ [x]
 | [],x=>by simp [compact]
 | [a],x=>by
   rcases Classical.em (a = x) with h | h
   ·simp [compact,h]
   ·simp [compact,h]
 | a :: b :: l,x=>by
   have ih:=compact_snoc (b :: l) x
   rw [List.getLast?_cons_cons]
   simp only [List.cons_append,compact] at ih ⊢
   rcases Classical.em (a = b) with h | h
   ·rw [if_pos h,if_pos h,ih]
   ·rw [if_neg h,if_neg h,ih]
    split <;> rfl
theorem compact_lib:∀ (n:Nat) (zs:List Int),zs.length = n → Lib.compact zs = compact zs
 | 0,zs,h=>by rw [List.length_eq_zero_iff.1 h]; rfl
 | n + 1,zs,h=>by
   rcases List.eq_nil_or_concat zs with e | ⟨ys,x,e⟩
   ·rw [e] at h; cases h
   ·rw [List.concat_eq_append] at e
    subst e
    have hl:ys.length = n:=by simpa using h
    have ih:=compact_lib n ys hl
    have e1:Lib.compact (ys ++ [x]) = Lib.compactUpTo (ys ++ [x]).toArray (ys.length + 1):=by unfold Lib.compact; rw [List.length_append]; rfl
    have e2:Lib.compactUpTo (ys ++ [x]).toArray ys.length = compact ys:=by
     rw [← ih]
     refine upTo_congr _ fun j hj=>?_
     simp [hj,List.getElem_append_left,Nat.lt_succ_of_lt hj]
    have e3:(ys ++ [x]).toArray[ys.length]! = x:=by simp
    rw [e1,Lib.compactUpTo_succ,e2,e3,compact_snoc]
    have e4:Lib.keeps (ys ++ [x]).toArray ys.length = decide (ys.getLast? ≠ some x):=by
     unfold Lib.keeps
     rw [e3,List.getLast?_eq_getElem?]
     rcases Nat.eq_zero_or_pos ys.length with h0 | h0
     ·have:ys = []:=List.length_eq_zero_iff.1 h0
      subst this; simp
     ·have h1:ys.length - 1 < ys.length:=by omega
      have e5:(ys ++ [x]).toArray[ys.length - 1]! = ys[ys.length - 1]:=by
       have e6:(ys ++ [x])[ys.length - 1]? = some ys[ys.length - 1]:=by rw [List.getElem?_append_left h1,List.getElem?_eq_getElem h1]
       rw [List.getElem!_toArray,getElem!_def,e6]
      rw [e5,List.getElem?_eq_getElem h1]
      refine decide_eq_decide.2 ⟨fun hh he=>?_,fun hh=>.inr fun he=>hh (by rw [he])⟩
      rcases hh with hh | hh
      ·omega
      ·exact hh (Option.some.inj he).symm
    rw [e4]
    rcases Classical.em (ys.getLast? = some x) with h1 | h1
    ·simp [h1]
    ·simp [h1]
end Go.Mod
namespace Go.Mod
open Go.Eng
mutual
def nodesF:Form → List Form
 | .mk k l ks=>if k = 1 then [] else if k = 2 then nodesFs ks else nodesFs ks ++ [.mk k l ks]
def nodesFs:List Form → List Form
 | []=>[]
 | t :: ts=>nodesF t ++ nodesFs ts
end
theorem nodesF_eq (t:Form):nodesF t = if t.kind = 1 then [] else if t.kind = 2 then nodesFs t.kids else nodesFs t.kids ++ [t]:=by cases t; rfl
theorem nodesF_lit {t:Form} (h:t.kind = 1):nodesF t = []:=by rw [nodesF_eq,if_pos h]
theorem nodesF_not {t:Form} (h:t.kind = 2) (hl:t.kids.length = 1):nodesF t = nodesF t.kids[0]:=by
 rw [nodesF_eq,if_neg (by omega),if_pos h]
 obtain ⟨u,hu⟩:=List.length_eq_one_iff.1 hl
 simp [hu,nodesFs]
theorem nodesF_two {t:Form} (h1:t.kind ≠ 1) (h2:t.kind ≠ 2) (hl:t.kids.length = 2):nodesF t = nodesF t.kids[0] ++ nodesF t.kids[1] ++ [t]:=by
 rw [nodesF_eq,if_neg h1,if_neg h2]
 have key:∀ (ks:List Form) (hl:ks.length = 2),nodesFs ks = nodesF ks[0] ++ nodesF ks[1]:=by
  intro ks hl
  match ks,hl with
  | [u,v],_=>simp [nodesFs]
 rw [key t.kids hl]
mutual
theorem nodesF_len:∀ (t:Form) (d:Nat),formShape t d = true → (nodesF t).length ≤ formMany t d
 | .mk k l ks,0,h=>by simp [formShape] at h
 | .mk k l ks,d + 1,h=>by
   simp only [formShape,Bool.and_eq_true] at h
   have ih:=nodesFs_len ks d h.2
   simp only [nodesF,formMany]
   split
   ·simp
   ·split
    ·omega
    ·rw [List.length_append,List.length_singleton]; omega
theorem nodesFs_len:∀ (ts:List Form) (d:Nat),formShapes ts d = true → (nodesFs ts).length ≤ formManys ts d
 | [],_,_=>by simp [nodesFs,formManys]
 | t :: ts,d,h=>by
   simp only [formShapes,Bool.and_eq_true] at h
   have h1:=nodesF_len t d h.1
   have h2:=nodesFs_len ts d h.2
   simp only [nodesFs,formManys,List.length_append]
   omega
end
end Go.Mod
namespace Go.Mod
open Go.Eng
set_option maxRecDepth 100000
def decGo:Nat → Int → Str → Str
 | 0,_,s=>s
 | n + 1,k,s=>if 0 < k then decGo n (k.tdiv 10) (UInt8.ofNat (48 + k.tmod 10).toNat :: s) else s
def mkText (k:Int):Str:=if k ≤ 0 then [109,48] else 109 :: decGo 20 k []
def mkL {α:Type} (f:α → Int → α × Int):List α → Int → List α × Int
 | [],k=>([],k)
 | x :: xs,k=>((f x k).1 :: (mkL f xs (f x k).2).1,(mkL f xs (f x k).2).2)
theorem mkL_len {α:Type} (f:α → Int → α × Int):∀ (xs:List α) (k:Int),(mkL f xs k).1.length = xs.length
 | [],_=>rfl
 | x :: xs,k=>by simp [mkL,mkL_len f xs]
def Mk {α:Type} (f:α → Int → α × Int) (ts:List α) (k:Int) (i:Nat) (zs:List α) (k':Int):Prop:=
 zs.length = ts.length ∧ i ≤ ts.length ∧ zs.drop i = ts.drop i ∧ mkL f ts k = (zs.take i ++ (mkL f (ts.drop i) k').1,(mkL f (ts.drop i) k').2)
theorem Mk.zero {α:Type} (f:α → Int → α × Int) (ts:List α) (k:Int):Mk f ts k 0 ts k:=⟨rfl,Nat.zero_le _,rfl,by simp⟩
theorem Mk.len {α:Type} {f:α → Int → α × Int} {ts zs:List α} {k k':Int} {i:Nat} (h:Mk f ts k i zs k'):zs.length = ts.length:=h.1
theorem Mk.at {α:Type} {f:α → Int → α × Int} {ts zs:List α} {k k':Int} {i:Nat} (h:Mk f ts k i zs k') (hi:i < ts.length):zs[i]'(by rw [h.1]; exact hi) = ts[i]:=by
 have h1:zs.drop i = ts.drop i:=h.2.2.1
 have e:(zs.drop i)[0]? = (ts.drop i)[0]?:=by rw [h1]
 rw [List.getElem?_drop,List.getElem?_drop,Nat.add_zero,List.getElem?_eq_getElem hi,List.getElem?_eq_getElem (by rw [h.1]; exact hi)] at e
 exact Option.some.inj e
theorem Mk.all {α:Type} {f:α → Int → α × Int} {ts zs:List α} {k k':Int} {i:Nat} (h:Mk f ts k i zs k') (hi:ts.length ≤ i):mkL f ts k = (zs,k'):=by
 obtain ⟨h1,h2,h3,h4⟩:=h
 rw [h4,List.drop_of_length_le hi,List.take_of_length_le (by omega)]
 simp [mkL]
def mkI (n:Int) (k:Int):Int × Int:=(k,k + 1)
mutual
def mkT:Term → Int → Term × Int
 | .mk _ ks,k=>(.mk (mkText k) (mkTs ks (k + 1)).1,(mkTs ks (k + 1)).2)
def mkTs:List Term → Int → List Term × Int
 | [],k=>([],k)
 | t :: ts,k=>((mkT t k).1 :: (mkTs ts (mkT t k).2).1,(mkTs ts (mkT t k).2).2)
end
def mkSym (s:Sym) (k:Int):Sym × Int:=(⟨mkText k,(mkL mkI s.args (k + 1)).1,(mkL mkI s.args (k + 1)).2⟩,(mkL mkI s.args (k + 1)).2 + 1)
def mkAtom (a:Atom) (k:Int):Atom × Int:=
 let A:=mkT a.A (k + 1)
 let B:=mkT a.B A.2
 let N:=mkTs a.nums B.2
 let I:=mkL mkI a.times N.2
 (⟨k,A.1,B.1,N.1,I.1,I.2,decide ((I.2 + 1).tmod 3 = 0)⟩,I.2 + 1 + 1)
def mkLit (l:LitD) (k:Int):LitD × Int:=(⟨(mkAtom l.atom k).1,decide ((mkAtom l.atom k).2.tmod 3 = 0)⟩,(mkAtom l.atom k).2 + 1)
mutual
def mkForm:Form → Int → Form × Int
 | .mk _ l ks,k=>(.mk k (mkLit l (k + 1)).1 (mkForms ks (mkLit l (k + 1)).2).1,(mkForms ks (mkLit l (k + 1)).2).2)
def mkForms:List Form → Int → List Form × Int
 | [],k=>([],k)
 | t :: ts,k=>((mkForm t k).1 :: (mkForms ts (mkForm t k).2).1,(mkForms ts (mkForm t k).2).2)
end
def mkStack (s:Stack) (k:Int):Stack × Int:=(⟨⟨(mkL mkSym s.sig.syms k).1⟩,(mkL mkForms s.levels (mkL mkSym s.sig.syms k).2).1⟩,(mkL mkForms s.levels (mkL mkSym s.sig.syms k).2).2)
mutual
def ctT:Term → Nat
 | .mk _ ks=>1 + ctTs ks
def ctTs:List Term → Nat
 | []=>0
 | t :: ts=>ctT t + ctTs ts
end
def ctSym (s:Sym):Nat:=s.args.length + 2
def ctLit (l:LitD):Nat:=ctT l.atom.A + ctT l.atom.B + ctTs l.atom.nums + l.atom.times.length + 4
mutual
def ctForm:Form → Nat
 | .mk _ l ks=>1 + ctLit l + ctForms ks
def ctForms:List Form → Nat
 | []=>0
 | t :: ts=>ctForm t + ctForms ts
end
def ctL {α:Type} (c:α → Nat):List α → Nat
 | []=>0
 | x :: xs=>c x + ctL c xs
theorem ctForms_L:∀ (ts:List Form),ctForms ts = ctL ctForm ts
 | []=>rfl
 | t :: ts=>by simp [ctForms,ctL,ctForms_L ts]
theorem ctForm_eq (t:Form):ctForm t = 1 + ctLit t.lit + ctForms t.kids:=by cases t; rfl
def Hd {α:Type} (f:α → Int → α × Int) (ts zs:List α) (k:Int) (i:Nat) (q:Int):Prop:=
 zs.length = ts.length ∧ i ≤ ts.length ∧ zs.drop i = (mkL f (ts.drop i) q).1 ∧ (mkL f ts k).2 = (mkL f (ts.drop i) q).2
theorem Hd.zero {α:Type} (f:α → Int → α × Int) (ts:List α) (k:Int):Hd f ts (mkL f ts k).1 k 0 k:=⟨mkL_len f ts k,Nat.zero_le _,by simp,by simp⟩
theorem Hd.at {α:Type} {f:α → Int → α × Int} {ts zs:List α} {k q:Int} {i:Nat} (h:Hd f ts zs k i q) (hi:i < ts.length):zs[i]'(by rw [h.1]; exact hi) = (f ts[i] q).1:=by
 have h1:=h.2.2.1
 rw [List.drop_eq_getElem_cons hi,List.drop_eq_getElem_cons (by rw [h.1]; exact hi)] at h1
 simp only [mkL] at h1
 exact (List.cons.inj h1).1
theorem Hd.all {α:Type} {f:α → Int → α × Int} {ts zs:List α} {k q:Int} {i:Nat} (h:Hd f ts zs k i q) (hi:ts.length ≤ i):(mkL f ts k).2 = q:=by
 rw [h.2.2.2,List.drop_of_length_le hi]
 rfl
end Go.Mod
namespace Go.Mod
open Go.Eng
set_option maxRecDepth 100000
def stackOk (k:Stack):Bool:=within k.levels.length 1 4 && formsOk k.sig k.levels.flatten
def stackPop (k:Stack):Stack × Bool:=
 if stackOk k then (if k.levels.length = 1 then (k,false) else (⟨k.sig,k.levels.take (k.levels.length - 1)⟩,true)) else (⟨⟨[]⟩,[]⟩,false)
theorem stackOk_len {k:Stack} (h:stackOk k = true):1 ≤ k.levels.length ∧ k.levels.length ≤ 4:=by
 simp only [stackOk,Bool.and_eq_true] at h
 have:=withinB_iff.1 h.1
 omega
theorem ctForms_len:∀ (fs:List Form),fs.length ≤ ctForms fs
 | []=>by simp [ctForms]
 | f :: fs=>by
   have:=ctForms_len fs
   simp only [ctForms,ctForm_eq,List.length_cons]
   omega
theorem flat_len:∀ (l:List (List Form)),l.flatten.length ≤ ctL ctForms l
 | []=>by simp
 | x :: l=>by
   have h1:=flat_len l
   have h2:=ctForms_len x
   simp only [List.flatten_cons,List.length_append,ctL]
   omega
def ctStack (k:Stack):Nat:=ctL ctSym k.sig.syms + ctL ctForms k.levels
def tellLast:List (List Form) → Form → List (List Form)
 | [],_=>[]
 | [x],f=>[x ++ [f]]
 | x :: y :: l,f=>x :: tellLast (y :: l) f
def stackTell (k:Stack) (f:Form):Stack × Bool:=
 if stackOk k then (if stackOk ⟨k.sig,tellLast k.levels f⟩ then (⟨k.sig,tellLast k.levels f⟩,true) else (k,false)) else (⟨⟨[]⟩,[]⟩,false)
end Go.Mod
