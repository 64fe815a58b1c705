/-
  The data of the program as plain Lean types, and how they lie in memory, cell by cell. No program is walked here. What the functions of the first chapters compute, in plain Lean: numbers, constraints, terms, equations, atoms. No program is walked here. What the functions of the later chapters compute, in plain Lean: models, certificates, formulas, clauses. No program is walked here. Plain laws on terms: two ways to measure a term are one. No program is walked here. Plain laws on sorts, texts and sums: what the reference says otherwise is the same. No program is walked here. Plain laws on literals, their terms and their sums. No program is walked here. Plain laws on formulas: two ways to measure a formula are one; what it tells of. No program is walked here. Plain laws on models: two ways to compare rows are one; what is found by halving is what is found by looking at all. No program is walked here. Plain laws on sums and on selections. No program is walked here.
-/
import Derived.Test.YtdikjlldidjioaaGreatKAD
set_option linter.unusedVariables false
set_option linter.unusedSimpArgs false
namespace Go.Mod
open Go.Eng
abbrev Str:=List UInt8
def rowsI (ns:List Int):List (List D):=ns.map fun n=>[.val (.int .i64 n)]
def rowsB (ns:List Bool):List (List D):=ns.map fun n=>[.val (.bool n)]
def rowsS (ns:List Str):List (List D):=ns.map fun n=>[.str n]
def rowsII (ns:List (List Int)):List (List D):=ns.map fun n=>[.lst (rowsI n)]
theorem rowsI_len (ns:List Int):(rowsI ns).length = ns.length:=by simp [rowsI]
theorem rowsI_row {ns:List Int} {i:Nat} (h:i < ns.length):row (rowsI ns) i = [.val (.int .i64 ns[i])]:=by simp [rowsI,row,List.getD,List.getElem?_eq_getElem h]
theorem rowsI_all (ns:List Int):∀ y ∈ rowsI ns,y.length = 1:=by
 intro y hy
 rw [show rowsI ns = ns.map _ from rfl] at hy
 obtain ⟨t,_,rfl⟩:=List.mem_map.1 hy
 rfl
theorem rowsI_app (ns ms:List Int):rowsI ns ++ rowsI ms = rowsI (ns ++ ms):=by simp [rowsI]
theorem rowsI_nil:rowsI [] = []:=rfl
theorem rowsI_cons (n:Int) (ns:List Int):rowsI (n :: ns) = [.val (.int .i64 n)] :: rowsI ns:=rfl
theorem rowsB_all (ns:List Bool):∀ y ∈ rowsB ns,y.length = 1:=by
 intro y hy
 rw [show rowsB ns = ns.map _ from rfl] at hy
 obtain ⟨t,_,rfl⟩:=List.mem_map.1 hy
 rfl
theorem rowsS_len (ns:List Str):(rowsS ns).length = ns.length:=by simp [rowsS]
theorem rowsS_row {ns:List Str} {i:Nat} (h:i < ns.length):row (rowsS ns) i = [.str ns[i]]:=by simp [rowsS,row,List.getD,List.getElem?_eq_getElem h]
theorem rowsS_app (ns ms:List Str):rowsS ns ++ rowsS ms = rowsS (ns ++ ms):=by simp [rowsS]
theorem rowsS_nil:rowsS [] = []:=rfl
theorem rowsII_all (ns:List (List Int)):∀ y ∈ rowsII ns,y.length = 1:=by
 intro y hy
 rw [show rowsII ns = ns.map _ from rfl] at hy
 obtain ⟨t,_,rfl⟩:=List.mem_map.1 hy
 rfl
inductive Term where
 | mk (name:Str) (kids:List Term)
def Term.name:Term → Str
 | .mk x _=>x
def Term.kids:Term → List Term
 | .mk _ x=>x
theorem Term.ind {P:Term → Prop} (h:∀ name kids,(∀ k ∈ kids,P k) → P (.mk name kids)):∀ t,P t:=by
 intro t
 refine Term.rec (motive_1:=P) (motive_2:=fun ks=>∀ k ∈ ks,P k) (fun name kids ih=>h name kids ih) (by simp) (fun t ts h1 h2=>?_) t
 intro k hk
 rcases List.mem_cons.1 hk with rfl | hk
 ·exact h1
 ·exact h2 k hk
mutual
def rowT:Term → List D
 | .mk name kids=>[.str name,.lst (rowsT kids)]
def rowsT:List Term → List (List D)
 | []=>[]
 | t :: ts=>rowT t :: rowsT ts
end
def cT (t:Term):List D:=[.str t.name,.lst (rowsT t.kids)]
theorem rowT_eq (t:Term):rowT t = cT t:=by cases t; rfl
theorem rowsT_map:∀ (ts:List Term),rowsT ts = ts.map cT
 | []=>rfl
 | t :: ts=>by simp [rowsT,rowT_eq,rowsT_map ts]
theorem rowsT_len (ns:List Term):(rowsT ns).length = ns.length:=by simp [rowsT_map]
theorem rowsT_row {ns:List Term} {i:Nat} (h:i < ns.length):row (rowsT ns) i = cT ns[i]:=by simp [rowsT_map,row,List.getD,List.getElem?_eq_getElem h]
theorem rowsT_all (ns:List Term):∀ y ∈ rowsT ns,y.length = 2:=by
 intro y hy
 rw [show rowsT ns = ns.map _ from rowsT_map ns] at hy
 obtain ⟨t,_,rfl⟩:=List.mem_map.1 hy
 rfl
theorem rowsT_take (ns:List Term) (i:Nat):(rowsT ns).take i = rowsT (ns.take i):=by simp [rowsT_map]
theorem rowsT_app (ns ms:List Term):rowsT ns ++ rowsT ms = rowsT (ns ++ ms):=by simp [rowsT_map]
theorem rowsT_nil:rowsT [] = []:=rfl
theorem rowsT_cons (n:Term) (ns:List Term):rowsT (n :: ns) = cT n :: rowsT ns:=by simp [rowsT_map]
theorem rowsT_snoc {ns:List Term} {i:Nat} (h:i < ns.length):rowsT (ns.take i) ++ [cT ns[i]] = rowsT (ns.take (i + 1)):=by
 have e:ns.take (i + 1) = ns.take i ++ [ns[i]]:=by rw [List.take_add_one,List.getElem?_eq_getElem h]; rfl
 rw [e,← rowsT_app,rowsT_cons,rowsT_nil]
mutual
def sameT:Term → Term → Bool
 | .mk name1 kids1,.mk name2 kids2=>decide (name1 = name2) && sameTs kids1 kids2
def sameTs:List Term → List Term → Bool
 | [],[]=>true
 | x :: xs,y :: ys=>sameT x y && sameTs xs ys
 | _,_=>false
end
mutual
theorem sameT_iff:∀ (a b:Term),sameT a b = true ↔ a = b
 | .mk name1 kids1,.mk name2 kids2=>by simp [sameT,sameTs_iff]
theorem sameTs_iff:∀ (a b:List Term),sameTs a b = true ↔ a = b
 | [],[]=>by simp [sameTs]
 | [],_ :: _=>by simp [sameTs]
 | _ :: _,[]=>by simp [sameTs]
 | x :: xs,y :: ys=>by simp [sameTs,sameT_iff x y,sameTs_iff xs ys]
end
instance:DecidableEq Term:=fun a b=>decidable_of_iff _ (sameT_iff a b)
structure Sym where
 name:Str
 args:List Int
 sort:Int
 deriving DecidableEq
def cSym (t:Sym):List D:=[.str t.name,.lst (rowsI t.args),.val (.int .i64 t.sort)]
def rowsSym (l:List Sym):List (List D):=l.map cSym
theorem rowsSym_len (ns:List Sym):(rowsSym ns).length = ns.length:=by simp [rowsSym]
theorem rowsSym_row {ns:List Sym} {i:Nat} (h:i < ns.length):row (rowsSym ns) i = cSym ns[i]:=by simp [rowsSym,row,List.getD,List.getElem?_eq_getElem h]
theorem rowsSym_app (ns ms:List Sym):rowsSym ns ++ rowsSym ms = rowsSym (ns ++ ms):=by simp [rowsSym]
structure Sig where
 syms:List Sym
 deriving DecidableEq
def cSig (t:Sig):List D:=[.lst (rowsSym t.syms)]
structure Atom where
 kind:Int
 A:Term
 B:Term
 nums:List Term
 times:List Int
 bound:Int
 strict:Bool
 deriving DecidableEq
def cAtom (t:Atom):List D:=[.val (.int .i64 t.kind),.str t.A.name,.lst (rowsT t.A.kids),.str t.B.name,.lst (rowsT t.B.kids),.lst (rowsT t.nums),.lst (rowsI t.times),.val (.int .i64 t.bound),.val (.bool t.strict)]
def rowsAtom (l:List Atom):List (List D):=l.map cAtom
theorem rowsAtom_len (ns:List Atom):(rowsAtom ns).length = ns.length:=by simp [rowsAtom]
theorem rowsAtom_row {ns:List Atom} {i:Nat} (h:i < ns.length):row (rowsAtom ns) i = cAtom ns[i]:=by simp [rowsAtom,row,List.getD,List.getElem?_eq_getElem h]
theorem rowsAtom_all (ns:List Atom):∀ y ∈ rowsAtom ns,y.length = 9:=by
 intro y hy
 rw [show rowsAtom ns = ns.map _ from rfl] at hy
 obtain ⟨t,_,rfl⟩:=List.mem_map.1 hy
 rfl
theorem rowsAtom_app (ns ms:List Atom):rowsAtom ns ++ rowsAtom ms = rowsAtom (ns ++ ms):=by simp [rowsAtom]
theorem rowsAtom_nil:rowsAtom [] = []:=rfl
theorem rowsAtom_cons (n:Atom) (ns:List Atom):rowsAtom (n :: ns) = cAtom n :: rowsAtom ns:=rfl
structure LitD where
 atom:Atom
 no:Bool
 deriving DecidableEq
def cLit (t:LitD):List D:=[.val (.int .i64 t.atom.kind),.str t.atom.A.name,.lst (rowsT t.atom.A.kids),.str t.atom.B.name,.lst (rowsT t.atom.B.kids),.lst (rowsT t.atom.nums),.lst (rowsI t.atom.times),.val (.int .i64 t.atom.bound),.val (.bool t.atom.strict),.val (.bool t.no)]
def rowsLit (l:List LitD):List (List D):=l.map cLit
theorem rowsLit_len (ns:List LitD):(rowsLit ns).length = ns.length:=by simp [rowsLit]
theorem rowsLit_row {ns:List LitD} {i:Nat} (h:i < ns.length):row (rowsLit ns) i = cLit ns[i]:=by simp [rowsLit,row,List.getD,List.getElem?_eq_getElem h]
theorem rowsLit_all (ns:List LitD):∀ y ∈ rowsLit ns,y.length = 10:=by
 intro y hy
 rw [show rowsLit ns = ns.map _ from rfl] at hy
 obtain ⟨t,_,rfl⟩:=List.mem_map.1 hy
 rfl
theorem rowsLit_app (ns ms:List LitD):rowsLit ns ++ rowsLit ms = rowsLit (ns ++ ms):=by simp [rowsLit]
inductive Why where
 | mk (rule:Int) (n:Int) (t:Term) (kids:List Why)
def Why.rule:Why → Int
 | .mk x _ _ _=>x
def Why.n:Why → Int
 | .mk _ x _ _=>x
def Why.t:Why → Term
 | .mk _ _ x _=>x
def Why.kids:Why → List Why
 | .mk _ _ _ x=>x
theorem Why.ind {P:Why → Prop} (h:∀ rule n t kids,(∀ k ∈ kids,P k) → P (.mk rule n t kids)):∀ t,P t:=by
 intro t
 refine Why.rec (motive_1:=P) (motive_2:=fun ks=>∀ k ∈ ks,P k) (fun rule n t kids ih=>h rule n t kids ih) (by simp) (fun t ts h1 h2=>?_) t
 intro k hk
 rcases List.mem_cons.1 hk with rfl | hk
 ·exact h1
 ·exact h2 k hk
mutual
def rowWhy:Why → List D
 | .mk rule n t kids=>[.val (.int .i64 rule),.val (.int .i64 n),.str t.name,.lst (rowsT t.kids),.lst (rowsWhy kids)]
def rowsWhy:List Why → List (List D)
 | []=>[]
 | t :: ts=>rowWhy t :: rowsWhy ts
end
def cWhy (t:Why):List D:=[.val (.int .i64 t.rule),.val (.int .i64 t.n),.str t.t.name,.lst (rowsT t.t.kids),.lst (rowsWhy t.kids)]
theorem rowsWhy_nil:rowsWhy [] = []:=rfl
mutual
def sameWhy:Why → Why → Bool
 | .mk rule1 n1 t1 kids1,.mk rule2 n2 t2 kids2=>decide (rule1 = rule2) && decide (n1 = n2) && decide (t1 = t2) && sameWhys kids1 kids2
def sameWhys:List Why → List Why → Bool
 | [],[]=>true
 | x :: xs,y :: ys=>sameWhy x y && sameWhys xs ys
 | _,_=>false
end
mutual
theorem sameWhy_iff:∀ (a b:Why),sameWhy a b = true ↔ a = b
 | .mk rule1 n1 t1 kids1,.mk rule2 n2 t2 kids2=>by simp [sameWhy,sameWhys_iff,and_assoc]
theorem sameWhys_iff:∀ (a b:List Why),sameWhys a b = true ↔ a = b
 | [],[]=>by simp [sameWhys]
 | [],_ :: _=>by simp [sameWhys]
 | _ :: _,[]=>by simp [sameWhys]
 | x :: xs,y :: ys=>by simp [sameWhys,sameWhy_iff x y,sameWhys_iff xs ys]
end
instance:DecidableEq Why:=fun a b=>decidable_of_iff _ (sameWhy_iff a b)
inductive Case where
 | mk (kind:Int) (n:Int) (why:Why) (times:List Int) (A:Term) (B:Term) (kids:List Case)
def Case.kind:Case → Int
 | .mk x _ _ _ _ _ _=>x
def Case.n:Case → Int
 | .mk _ x _ _ _ _ _=>x
def Case.why:Case → Why
 | .mk _ _ x _ _ _ _=>x
def Case.times:Case → List Int
 | .mk _ _ _ x _ _ _=>x
def Case.A:Case → Term
 | .mk _ _ _ _ x _ _=>x
def Case.B:Case → Term
 | .mk _ _ _ _ _ x _=>x
def Case.kids:Case → List Case
 | .mk _ _ _ _ _ _ x=>x
theorem Case.ind {P:Case → Prop} (h:∀ kind n why times A B kids,(∀ k ∈ kids,P k) → P (.mk kind n why times A B kids)):∀ t,P t:=by
 intro t
 refine Case.rec (motive_1:=P) (motive_2:=fun ks=>∀ k ∈ ks,P k) (fun kind n why times A B kids ih=>h kind n why times A B kids ih) (by simp) (fun t ts h1 h2=>?_) t
 intro k hk
 rcases List.mem_cons.1 hk with rfl | hk
 ·exact h1
 ·exact h2 k hk
mutual
def rowCase:Case → List D
 | .mk kind n why times A B kids=>[.val (.int .i64 kind),.val (.int .i64 n),.val (.int .i64 why.rule),.val (.int .i64 why.n),.str why.t.name,.lst (rowsT why.t.kids),.lst (rowsWhy why.kids),.lst (rowsI times),.str A.name,.lst (rowsT A.kids),.str B.name,.lst (rowsT B.kids),.lst (rowsCase kids)]
def rowsCase:List Case → List (List D)
 | []=>[]
 | t :: ts=>rowCase t :: rowsCase ts
end
def cCase (t:Case):List D:=[.val (.int .i64 t.kind),.val (.int .i64 t.n),.val (.int .i64 t.why.rule),.val (.int .i64 t.why.n),.str t.why.t.name,.lst (rowsT t.why.t.kids),.lst (rowsWhy t.why.kids),.lst (rowsI t.times),.str t.A.name,.lst (rowsT t.A.kids),.str t.B.name,.lst (rowsT t.B.kids),.lst (rowsCase t.kids)]
mutual
def sameCase:Case → Case → Bool
 | .mk kind1 n1 why1 times1 A1 B1 kids1,.mk kind2 n2 why2 times2 A2 B2 kids2=>decide (kind1 = kind2) && decide (n1 = n2) && decide (why1 = why2) && decide (times1 = times2) && decide (A1 = A2) && decide (B1 = B2) && sameCases kids1 kids2
def sameCases:List Case → List Case → Bool
 | [],[]=>true
 | x :: xs,y :: ys=>sameCase x y && sameCases xs ys
 | _,_=>false
end
mutual
theorem sameCase_iff:∀ (a b:Case),sameCase a b = true ↔ a = b
 | .mk kind1 n1 why1 times1 A1 B1 kids1,.mk kind2 n2 why2 times2 A2 B2 kids2=>by simp [sameCase,sameCases_iff,and_assoc]
theorem sameCases_iff:∀ (a b:List Case),sameCases a b = true ↔ a = b
 | [],[]=>by simp [sameCases]
 | [],_ :: _=>by simp [sameCases]
 | _ :: _,[]=>by simp [sameCases]
 | x :: xs,y :: ys=>by simp [sameCases,sameCase_iff x y,sameCases_iff xs ys]
end
instance:DecidableEq Case:=fun a b=>decidable_of_iff _ (sameCase_iff a b)
inductive Form where
 | mk (kind:Int) (lit:LitD) (kids:List Form)
def Form.kind:Form → Int
 | .mk x _ _=>x
def Form.lit:Form → LitD
 | .mk _ x _=>x
def Form.kids:Form → List Form
 | .mk _ _ x=>x
theorem Form.ind {P:Form → Prop} (h:∀ kind lit kids,(∀ k ∈ kids,P k) → P (.mk kind lit kids)):∀ t,P t:=by
 intro t
 refine Form.rec (motive_1:=P) (motive_2:=fun ks=>∀ k ∈ ks,P k) (fun kind lit kids ih=>h kind lit kids ih) (by simp) (fun t ts h1 h2=>?_) t
 intro k hk
 rcases List.mem_cons.1 hk with rfl | hk
 ·exact h1
 ·exact h2 k hk
mutual
def rowForm:Form → List D
 | .mk kind lit kids=>[.val (.int .i64 kind),.val (.int .i64 lit.atom.kind),.str lit.atom.A.name,.lst (rowsT lit.atom.A.kids),.str lit.atom.B.name,.lst (rowsT lit.atom.B.kids),.lst (rowsT lit.atom.nums),.lst (rowsI lit.atom.times),.val (.int .i64 lit.atom.bound),.val (.bool lit.atom.strict),.val (.bool lit.no),.lst (rowsForm kids)]
def rowsForm:List Form → List (List D)
 | []=>[]
 | t :: ts=>rowForm t :: rowsForm ts
end
def cForm (t:Form):List D:=[.val (.int .i64 t.kind),.val (.int .i64 t.lit.atom.kind),.str t.lit.atom.A.name,.lst (rowsT t.lit.atom.A.kids),.str t.lit.atom.B.name,.lst (rowsT t.lit.atom.B.kids),.lst (rowsT t.lit.atom.nums),.lst (rowsI t.lit.atom.times),.val (.int .i64 t.lit.atom.bound),.val (.bool t.lit.atom.strict),.val (.bool t.lit.no),.lst (rowsForm t.kids)]
theorem rowForm_eq (t:Form):rowForm t = cForm t:=by cases t; rfl
theorem rowsForm_map:∀ (ts:List Form),rowsForm ts = ts.map cForm
 | []=>rfl
 | t :: ts=>by simp [rowsForm,rowForm_eq,rowsForm_map ts]
theorem rowsForm_len (ns:List Form):(rowsForm ns).length = ns.length:=by simp [rowsForm_map]
theorem rowsForm_row {ns:List Form} {i:Nat} (h:i < ns.length):row (rowsForm ns) i = cForm ns[i]:=by simp [rowsForm_map,row,List.getD,List.getElem?_eq_getElem h]
theorem rowsForm_all (ns:List Form):∀ y ∈ rowsForm ns,y.length = 12:=by
 intro y hy
 rw [show rowsForm ns = ns.map _ from rowsForm_map ns] at hy
 obtain ⟨t,_,rfl⟩:=List.mem_map.1 hy
 rfl
theorem rowsForm_app (ns ms:List Form):rowsForm ns ++ rowsForm ms = rowsForm (ns ++ ms):=by simp [rowsForm_map]
theorem rowsForm_nil:rowsForm [] = []:=rfl
theorem rowsForm_cons (n:Form) (ns:List Form):rowsForm (n :: ns) = cForm n :: rowsForm ns:=by simp [rowsForm_map]
theorem rowsForm_snoc {ns:List Form} {i:Nat} (h:i < ns.length):rowsForm (ns.take i) ++ [cForm ns[i]] = rowsForm (ns.take (i + 1)):=by
 have e:ns.take (i + 1) = ns.take i ++ [ns[i]]:=by rw [List.take_add_one,List.getElem?_eq_getElem h]; rfl
 rw [e,← rowsForm_app,rowsForm_cons,rowsForm_nil]
mutual
def sameForm:Form → Form → Bool
 | .mk kind1 lit1 kids1,.mk kind2 lit2 kids2=>decide (kind1 = kind2) && decide (lit1 = lit2) && sameForms kids1 kids2
def sameForms:List Form → List Form → Bool
 | [],[]=>true
 | x :: xs,y :: ys=>sameForm x y && sameForms xs ys
 | _,_=>false
end
mutual
theorem sameForm_iff:∀ (a b:Form),sameForm a b = true ↔ a = b
 | .mk kind1 lit1 kids1,.mk kind2 lit2 kids2=>by simp [sameForm,sameForms_iff,and_assoc]
theorem sameForms_iff:∀ (a b:List Form),sameForms a b = true ↔ a = b
 | [],[]=>by simp [sameForms]
 | [],_ :: _=>by simp [sameForms]
 | _ :: _,[]=>by simp [sameForms]
 | x :: xs,y :: ys=>by simp [sameForms,sameForm_iff x y,sameForms_iff xs ys]
end
instance:DecidableEq Form:=fun a b=>decidable_of_iff _ (sameForm_iff a b)
def rowsFF (ns:List (List Form)):List (List D):=ns.map fun n=>[.lst (rowsForm n)]
theorem rowsFF_len (ns:List (List Form)):(rowsFF ns).length = ns.length:=by simp [rowsFF]
theorem rowsFF_row {ns:List (List Form)} {i:Nat} (h:i < ns.length):row (rowsFF ns) i = [.lst (rowsForm ns[i])]:=by simp [rowsFF,row,List.getD,List.getElem?_eq_getElem h]
theorem rowsFF_all (ns:List (List Form)):∀ y ∈ rowsFF ns,y.length = 1:=by
 intro y hy
 rw [show rowsFF ns = ns.map _ from rfl] at hy
 obtain ⟨t,_,rfl⟩:=List.mem_map.1 hy
 rfl
theorem rowsFF_take (ns:List (List Form)) (i:Nat):(rowsFF ns).take i = rowsFF (ns.take i):=by simp [rowsFF]
theorem rowsFF_app (ns ms:List (List Form)):rowsFF ns ++ rowsFF ms = rowsFF (ns ++ ms):=by simp [rowsFF]
theorem rowsFF_nil:rowsFF [] = []:=rfl
theorem rowsFF_cons (n:(List Form)) (ns:List (List Form)):rowsFF (n :: ns) = [.lst (rowsForm n)] :: rowsFF ns:=rfl
theorem rowsFF_snoc {ns:List (List Form)} {i:Nat} (h:i < ns.length):rowsFF (ns.take i) ++ [[.lst (rowsForm ns[i])]] = rowsFF (ns.take (i + 1)):=by
 have e:ns.take (i + 1) = ns.take i ++ [ns[i]]:=by rw [List.take_add_one,List.getElem?_eq_getElem h]; rfl
 rw [e,← rowsFF_app,rowsFF_cons,rowsFF_nil]
structure Rat where
 N:Int
 D:Int
 deriving DecidableEq
def cRat (t:Rat):List D:=[.val (.int .i64 t.N),.val (.int .i64 t.D)]
def rowsRat (l:List Rat):List (List D):=l.map cRat
theorem rowsRat_all (ns:List Rat):∀ y ∈ rowsRat ns,y.length = 2:=by
 intro y hy
 rw [show rowsRat ns = ns.map _ from rfl] at hy
 obtain ⟨t,_,rfl⟩:=List.mem_map.1 hy
 rfl
structure Row where
 name:Str
 args:List Rat
 val:Rat
 deriving DecidableEq
def cRow (t:Row):List D:=[.str t.name,.lst (rowsRat t.args),.val (.int .i64 t.val.N),.val (.int .i64 t.val.D)]
def rowsRow (l:List Row):List (List D):=l.map cRow
structure Model where
 rows:List Row
 deriving DecidableEq
def cModel (t:Model):List D:=[.lst (rowsRow t.rows)]
structure Lin where
 coefs:List Int
 bound:Int
 strict:Bool
 deriving DecidableEq
def cLin (t:Lin):List D:=[.lst (rowsI t.coefs),.val (.int .i64 t.bound),.val (.bool t.strict)]
def rowsLin (l:List Lin):List (List D):=l.map cLin
theorem rowsLin_all (ns:List Lin):∀ y ∈ rowsLin ns,y.length = 3:=by
 intro y hy
 rw [show rowsLin ns = ns.map _ from rfl] at hy
 obtain ⟨t,_,rfl⟩:=List.mem_map.1 hy
 rfl
structure EqD where
 A:Term
 B:Term
 deriving DecidableEq
def cEq (t:EqD):List D:=[.str t.A.name,.lst (rowsT t.A.kids),.str t.B.name,.lst (rowsT t.B.kids)]
def rowsEq (l:List EqD):List (List D):=l.map cEq
theorem rowsEq_all (ns:List EqD):∀ y ∈ rowsEq ns,y.length = 4:=by
 intro y hy
 rw [show rowsEq ns = ns.map _ from rfl] at hy
 obtain ⟨t,_,rfl⟩:=List.mem_map.1 hy
 rfl
theorem rowsEq_nil:rowsEq [] = []:=rfl
structure Step where
 A:Int
 B:Int
 given:Int
 deriving DecidableEq
def cStep (t:Step):List D:=[.val (.int .i64 t.A),.val (.int .i64 t.B),.val (.int .i64 t.given)]
def rowsStep (l:List Step):List (List D):=l.map cStep
structure Cnf where
 many:Int
 list:List (List Int)
 deriving DecidableEq
def cCnf (t:Cnf):List D:=[.val (.int .i64 t.many),.lst (rowsII t.list)]
structure Lemma where
 marks:List Int
 case:Case
 deriving DecidableEq
def cLemma (t:Lemma):List D:=[.lst (rowsI t.marks),.val (.int .i64 t.case.kind),.val (.int .i64 t.case.n),.val (.int .i64 t.case.why.rule),.val (.int .i64 t.case.why.n),.str t.case.why.t.name,.lst (rowsT t.case.why.t.kids),.lst (rowsWhy t.case.why.kids),.lst (rowsI t.case.times),.str t.case.A.name,.lst (rowsT t.case.A.kids),.str t.case.B.name,.lst (rowsT t.case.B.kids),.lst (rowsCase t.case.kids)]
def rowsLemma (l:List Lemma):List (List D):=l.map cLemma
structure Paper where
 lemmas:List Lemma
 log:List (List Int)
 deriving DecidableEq
def cPaper (t:Paper):List D:=[.lst (rowsLemma t.lemmas),.lst (rowsII t.log)]
structure Stack where
 sig:Sig
 levels:List (List Form)
 deriving DecidableEq
def cStack (t:Stack):List D:=[.lst (rowsSym t.sig.syms),.lst (rowsFF t.levels)]
def av (cs:List D):PV:=.agg (pvs cs)
attribute [go_sem] rowsI_len rowsS_len rowsFF_len rowsT_len rowsSym_len rowsAtom_len rowsLit_len rowsForm_len
attribute [go_sem] rowsI_row rowsS_row rowsFF_row rowsT_row rowsSym_row rowsAtom_row rowsLit_row rowsForm_row
attribute [go_sem] rowsI_nil rowsS_nil rowsFF_nil rowsT_nil rowsAtom_nil rowsWhy_nil rowsForm_nil rowsEq_nil
attribute [go_sem] av cT cSym cSig cAtom cLit cWhy cCase cForm cRat cRow cModel cLin cEq cStep cCnf cLemma cPaper cStack Int.toNat_natCast
end Go.Mod
namespace Go.Mod
open Go.Eng
def within (n lo hi:Int):Bool:=decide (lo ≤ n) && decide (n ≤ hi)
theorem withinB_iff {n lo hi:Int}:within n lo hi = true ↔ lo ≤ n ∧ n ≤ hi:=by simp [within]
def idxGo {α:Type} (p:α → Bool):List α → Int → Int
 | [],_=>-1
 | x :: xs,i=>if p x then i else idxGo p xs (i + 1)
def idxOf {α:Type} (p:α → Bool) (xs:List α):Int:=idxGo p xs 0
def ratOk (a:Rat):Bool:=within a.N (-1000000000) 1000000000 && (within a.D 1 1000000000 && decide ((Int.gcd a.N a.D:Int) = 1))
def rat0:Rat:=⟨0,0⟩
def ratOf0 (n d:Int):Rat × Bool:=
 if d = 0 then (rat0,false) else
 let n1:=if d < 0 then -n else n
 let d1:=if d < 0 then -d else d
 let a:Rat:=⟨n1.tdiv (Int.gcd n1 d1),d1.tdiv (Int.gcd n1 d1)⟩
 if ratOk a then (a,true) else (rat0,false)
def ratOf (n d:Int):Rat × Bool:=if within n (-1000000000) 1000000000 && within d (-1000000000) 1000000000 then ratOf0 n d else (rat0,false)
def ratAdd (a b:Rat):Rat × Bool:=if ratOk a && ratOk b then ratOf0 (a.N * b.D + b.N * a.D) (a.D * b.D) else (rat0,false)
def ratMul (a b:Rat):Rat × Bool:=if ratOk a && ratOk b then ratOf0 (a.N * b.N) (a.D * b.D) else (rat0,false)
def ratLess (a b:Rat):Bool:=ratOk a && (ratOk b && decide (a.N * b.D < b.N * a.D))
def ratMid (a b:Rat):Rat × Bool:=if (ratAdd a b).2 then ratMul (ratAdd a b).1 ⟨1,2⟩ else (rat0,false)
def isCoef (n:Int):Bool:=within n (-1000000) 1000000
def linOk (l:Lin):Bool:=l.coefs.all isCoef && (decide (l.coefs.length = 4) && isCoef l.bound)
def lin0:Lin:=⟨[],0,false⟩
def linNot (l:Lin):Lin:=if linOk l then ⟨l.coefs.map fun c=>-c,-l.bound,!l.strict⟩ else lin0
def comb (m n:Int):List Int → List Int → List Int
 | a :: as,b :: bs=>(m * a + n * b) :: comb m n as bs
 | _,_=>[]
def linAdd (a:Lin) (m:Int) (b:Lin) (n:Int):Lin:=⟨comb m n a.coefs b.coefs,m * a.bound + n * b.bound,(decide (0 < m) && a.strict) || (decide (0 < n) && b.strict)⟩
def linSum0 (a:Lin) (m:Int) (b:Lin) (n:Int):Lin × Bool:=if linOk (linAdd a m b n) then (linAdd a m b n,true) else (lin0,false)
def linSum (a:Lin) (m:Int) (b:Lin) (n:Int):Lin × Bool:=if linOk a && linOk b && within m 0 1000000 && within n 0 1000000 then linSum0 a m b n else (lin0,false)
def flat (l:Lin):Bool:=l.coefs.all fun c=>decide (c = 0)
def linBad (l:Lin):Bool:=linOk l && (flat l && (decide (l.bound < 0) || (decide (l.bound = 0) && l.strict)))
def whole (n:Int):Rat:=⟨n,1⟩
def plus (sum:Rat) (c:Int) (val:Rat):Rat × Bool:=if (ratMul (whole c) val).2 then ratAdd sum (ratMul (whole c) val).1 else (rat0,false)
def isSystem (list:List Lin):Bool:=decide (list.length ≤ 20) && list.all linOk
def farGo:List Lin → List Int → Lin → Lin × Bool
 | l :: ls,t :: ts,out=>if (linSum out 1 l t).2 then farGo ls ts (linSum out 1 l t).1 else (lin0,false)
 | _,_,out=>(out,true)
def farSum (list:List Lin) (times:List Int):Lin × Bool:=if isSystem list && decide (times.length = list.length) then farGo list times ⟨[0,0,0,0],0,false⟩ else (lin0,false)
def farOk (list:List Lin) (times:List Int):Bool:=(farSum list times).2 && linBad (farSum list times).1
def letter (c:UInt8):Bool:=decide ((97:Int) ≤ (c.toNat:Int)) && decide ((c.toNat:Int) ≤ 122)
def nameOk (s:Str):Bool:=within s.length 1 2 && s.all letter
def isSort (n:Int):Bool:=decide (n = 0) || decide (n = 1)
def symOk (x:Sym):Bool:=nameOk x.name && (decide (x.args.length ≤ 2) && (isSort x.sort && x.args.all isSort))
def sLess (a b:Str):Bool:=Op.bytesLess a b
def symsGo:Option Str → List Sym → Bool
 | _,[]=>true
 | p,x :: xs=>symOk x && ((match p with | none=>true | some q=>sLess q x.name) && symsGo (some x.name) xs)
def sigOk (s:Sig):Bool:=symsGo none s.syms && decide (s.syms.length ≤ 7)
def symbol (s:Sig) (name:Str):Option Sym:=s.syms.find? fun x=>decide (x.name = name)
def sym0:Sym:=⟨[],[],0⟩
mutual
def termSize:Term → Nat → Nat
 | .mk n ks,deep=>if nameOk n && decide (ks.length ≤ 2) && decide (deep ≤ 4) then 1 + termSizes ks (deep + 1) else 13
def termSizes:List Term → Nat → Nat
 | [],_=>0
 | t :: ts,deep=>termSize t deep + termSizes ts deep
end
def isTerm (t:Term):Bool:=decide (termSize t 1 ≤ 12)
mutual
def tShape:Term → Nat → Bool
 | _,0=>false
 | .mk n ks,d + 1=>nameOk n && (decide (ks.length ≤ 2) && tShapes ks d)
def tShapes:List Term → Nat → Bool
 | [],_=>true
 | t :: ts,d=>tShape t d && tShapes ts d
end
mutual
def many:Term → Nat → Nat
 | _,0=>1
 | .mk _ ks,d + 1=>1 + manys ks d
def manys:List Term → Nat → Nat
 | [],_=>0
 | t :: ts,d=>many t d + manys ts d
end
mutual
def sortOf (s:Sig):Term → Option Int
 | .mk n ks=>match symbol s n with
   | none=>none
   | some x=>if decide (x.args.length = ks.length) && sortsOk s ks x.args then some x.sort else none
def sortsOk (s:Sig):List Term → List Int → Bool
 | k :: ks,a :: as=>decide (sortOf s k = some a) && sortsOk s ks as
 | _,_=>true
end
def termSort (s:Sig) (t:Term):Option Int:=if sigOk s && isTerm t then sortOf s t else none
def commas:List Str → Str
 | []=>[]
 | [t]=>t
 | t :: ts=>t ++ (44 :: commas ts)
mutual
def termText:Term → Str
 | .mk n []=>n
 | .mk n (k :: ks)=>n ++ (40 :: (commas (termText k :: termTexts ks) ++ [41]))
def termTexts:List Term → List Str
 | []=>[]
 | t :: ts=>termText t :: termTexts ts
end
def termIdx (list:List Term) (t:Term):Int:=idxOf (fun u=>decide (t = u)) list
mutual
def withParts (list:List Term):Term → List Term
 | .mk n ks=>let l:=withPartss list ks; if termIdx l (.mk n ks) < 0 then l ++ [.mk n ks] else l
def withPartss (list:List Term):List Term → List Term
 | []=>list
 | t :: ts=>withPartss (withParts list t) ts
end
def partsGo:List Term → List Term → List Term
 | [],out=>out
 | t :: ts,out=>if isTerm t then partsGo ts (withParts out t) else []
def termParts (list:List Term):List Term:=partsGo list []
def sides (eqs:List EqD):List Term:=eqs.flatMap fun e=>[e.A,e.B]
def eqSorted (s:Sig) (e:EqD):Bool:=(termSort s e.A).isSome && decide (termSort s e.A = termSort s e.B)
def eqsOk (s:Sig) (eqs:List EqD):Bool:=sigOk s && decide (eqs.length ≤ 12) && eqs.all (eqSorted s) && decide ((termParts (sides eqs)).length ≤ 24)
def term0:Term:=.mk [] []
def isNone (t:Term):Bool:=decide (t.name = []) && decide (t.kids = [])
def eq0:EqD:=⟨term0,term0⟩
def why0:Why:=.mk 0 0 term0 []
def tellI (eqs:List EqD) (rule n:Int) (t:Term) (kids:List EqD):EqD × Bool:=
 if (rule ≠ 2 ∧ n ≠ 0) ∨ (rule ≠ 1 ∧ rule ≠ 5 ∧ isNone t = false) then (eq0,false) else
 if rule = 1 then (⟨t,t⟩,decide (kids.length = 0) && isTerm t) else
 if rule = 2 then (if 0 < kids.length ∨ within n 0 (eqs.length - 1) = false then (eq0,false) else (eqs.getD n.toNat eq0,true)) else
 if rule = 3 then (if kids.length = 1 then (⟨(kids.getD 0 eq0).B,(kids.getD 0 eq0).A⟩,true) else (eq0,false)) else
 if rule = 4 then (if kids.length = 2 ∧ (kids.getD 0 eq0).B = (kids.getD 1 eq0).A then (⟨(kids.getD 0 eq0).A,(kids.getD 1 eq0).B⟩,true) else (eq0,false)) else
 if rule = 5 then (if kids.length = 0 ∨ nameOk t.name = false ∨ 0 < t.kids.length then (eq0,false) else
  (⟨.mk t.name (kids.map (·.A)),.mk t.name (kids.map (·.B))⟩,isTerm (.mk t.name (kids.map (·.A))) && isTerm (.mk t.name (kids.map (·.B))))) else
 (eq0,false)
mutual
def tellsG (f:Int → Int → Term → List EqD → EqD × Bool):Why → Nat → EqD × Bool
 | _,0=>(eq0,false)
 | .mk r n t ks,d + 1=>match tellssG f ks d with
   | none=>(eq0,false)
   | some kids=>f r n t kids
def tellssG (f:Int → Int → Term → List EqD → EqD × Bool):List Why → Nat → Option (List EqD)
 | [],_=>some []
 | w :: ws,d=>if (tellsG f w d).2 then (tellssG f ws d).map fun es=>(tellsG f w d).1 :: es else none
end
def whyTells (s:Sig) (eqs:List EqD) (w:Why):Option EqD:=
 if eqsOk s eqs && ((tellsG (tellI eqs) w 400).2 && eqsOk s [(tellsG (tellI eqs) w 400).1]) then some (tellsG (tellI eqs) w 400).1 else none
def numsGo:Option Term → List Term → List Int → Bool
 | p,t :: ts,n :: ns=>isTerm t && (within n (-50) 50 && (decide (n ≠ 0) && ((match p with | none=>true | some q=>sLess (termText q) (termText t)) && numsGo (some t) ts ns)))
 | _,_,_=>true
def atomWf (a:Atom):Bool:=
 if a.kind = 1 then isTerm a.A && (isTerm a.B && (decide (a.nums.length = 0) && (decide (a.times.length = 0) && (decide (a.bound = 0) && !a.strict)))) else
 if a.kind = 2 then isNone a.A && (isNone a.B && (within a.nums.length 1 4 && (decide (a.times.length = a.nums.length) && (within a.bound (-1000) 1000 && numsGo none a.nums a.times)))) else false
def isNumber (s:Sig) (t:Term):Bool:=decide (termSort s t = some 1)
def atomOk (s:Sig) (a:Atom):Bool:=sigOk s && (atomWf a && (if a.kind = 1 then eqSorted s ⟨a.A,a.B⟩ else a.nums.all (isNumber s)))
def atomTerms (a:Atom):List Term:=if a.kind = 1 then [a.A,a.B] else a.nums
def termsOf (lits:List LitD):List Term:=termParts (lits.flatMap fun l=>atomTerms l.atom)
def numsOf (s:Sig) (lits:List LitD):List Term:=(termsOf lits).filter (isNumber s)
def bothOk (s:Sig) (lits:List LitD):Bool:=sigOk s && decide (lits.length ≤ 6) && lits.all (fun l=>atomOk s l.atom) && decide ((termsOf lits).length ≤ 24) && decide ((numsOf s lits).length ≤ 4)
def eqsOf (lits:List LitD):List EqD:=lits.filterMap fun l=>if l.atom.kind = 1 ∧ l.no = false then some ⟨l.atom.A,l.atom.B⟩ else none
def addAt:List Int → Int → Int → List Int
 | [],_,_=>[]
 | c :: cs,i,v=>if i = 0 then (c + v) :: cs else c :: addAt cs (i - 1) v
def linGo (nums:List Term):List Term → List Int → List Int → List Int
 | t :: ts,n :: ns,cs=>linGo nums ts ns (addAt cs (termIdx nums t) n)
 | _,_,cs=>cs
def linOf (nums list:List Term) (times:List Int) (bound:Int) (strict:Bool):Lin:=⟨linGo nums list times [0,0,0,0],bound,strict⟩
def litLins (nums:List Term) (l:LitD):List Lin:=
 if l.atom.kind = 2 then [if l.no then linNot (linOf nums l.atom.nums l.atom.times l.atom.bound l.atom.strict) else linOf nums l.atom.nums l.atom.times l.atom.bound l.atom.strict]
 else if l.no = false ∧ 0 ≤ termIdx nums l.atom.A then [linOf nums [l.atom.A,l.atom.B] [1,-1] 0 false,linOf nums [l.atom.A,l.atom.B] [-1,1] 0 false] else []
def linsOf (nums:List Term) (lits:List LitD):List Lin:=lits.flatMap (litLins nums)
def eqAtom (a b:Term):Atom:=⟨1,a,b,[],[],0,false⟩
def eqLit (a b:Term):LitD:=⟨eqAtom a b,false⟩
def lessLit (a b:Term):LitD:=if sLess (termText b) (termText a) then ⟨⟨2,term0,term0,[b,a],[-1,1],0,true⟩,false⟩ else ⟨⟨2,term0,term0,[a,b],[1,-1],0,true⟩,false⟩
def parted (a b:Term):List LitD:=[eqLit a b,lessLit a b,lessLit b a]
def differ (nums:List Term) (a b:Term):Bool:=decide (0 ≤ termIdx nums a) && (decide (0 ≤ termIdx nums b) && decide (termIdx nums a ≠ termIdx nums b))
def bare (c:Case) (n why times terms:Bool) (kids:Nat):Bool:=
 (n || decide (c.n = 0)) && ((why || decide (c.why = why0)) && ((times || decide (c.times.length = 0)) && ((terms || (isNone c.A && isNone c.B)) && decide (c.kids.length = kids))))
theorem term0_name:term0.name = []:=rfl
theorem term0_kids:term0.kids = []:=rfl
theorem sym0_name:sym0.name = []:=rfl
theorem sym0_args:sym0.args = []:=rfl
theorem sym0_sort:sym0.sort = 0:=rfl
attribute [simp] term0_name term0_kids sym0_name sym0_args sym0_sort rowsT_nil rowsI_nil rowsEq_nil rowsWhy_nil
attribute [go_sem] term0_name term0_kids sym0_name sym0_args sym0_sort
theorem Term_name_mk (n:Str) (ks:List Term):(Term.mk n ks).name = n:=rfl
theorem Term_kids_mk (n:Str) (ks:List Term):(Term.mk n ks).kids = ks:=rfl
attribute [simp] Term_name_mk Term_kids_mk
attribute [go_sem] Term_name_mk Term_kids_mk
end Go.Mod
namespace Go.Mod
open Go.Eng
def cmpRat (a b:Rat):Int:=if ratLess a b then -1 else if ratLess b a then 1 else 0
def cmpRats:List Rat → List Rat → Int
 | [],[]=>0
 | [],_ :: _=>-1
 | _ :: _,[]=>1
 | a :: as,b :: bs=>if cmpRat a b = 0 then cmpRats as bs else cmpRat a b
def cmpStr (a b:Str):Int:=if sLess a b then -1 else if sLess b a then 1 else 0
def cmpInt (a b:Int):Int:=if a < b then -1 else if b < a then 1 else 0
def cmpRow (a b:Row):Int:=if cmpStr a.name b.name ≠ 0 then cmpStr a.name b.name else if cmpInt a.args.length b.args.length ≠ 0 then cmpInt a.args.length b.args.length else cmpRats a.args b.args
def rowWf (r:Row):Bool:=nameOk r.name && (decide (r.args.length ≤ 2) && (ratOk r.val && r.args.all ratOk))
def rowsGo:Option Row → List Row → Bool
 | _,[]=>true
 | p,r :: rs=>rowWf r && ((match p with | none=>true | some q=>decide (cmpRow q r < 0)) && rowsGo (some r) rs)
def modelWf (m:Model):Bool:=decide (m.rows.length ≤ 40) && rowsGo none m.rows
def suits (a:Rat) (sort:Int):Bool:=decide (sort = 1) || decide (a.D = 1)
def suitsAll:List Rat → List Int → Bool
 | a :: as,n :: ns=>suits a n && suitsAll as ns
 | _,_=>true
def rowSuits (s:Sig) (r:Row):Bool:=
 match symbol s r.name with
 | none=>false
 | some x=>decide (x.args.length = r.args.length) && (suits r.val x.sort && suitsAll r.args x.args)
def modelOk (s:Sig) (m:Model):Bool:=sigOk s && (modelWf m && m.rows.all (rowSuits s))
def lookup (rows:List Row) (name:Str) (args:List Rat):Rat:=
 match rows.find? (fun r=>decide (r.name = name ∧ r.args = args)) with
 | some r=>r.val
 | none=>⟨0,1⟩
mutual
def value (m:Model):Term → Rat
 | .mk n ks=>lookup m.rows n (values m ks)
def values (m:Model):List Term → List Rat
 | []=>[]
 | t :: ts=>value m t :: values m ts
end
def sumGo (m:Model):List Term → List Int → Rat → Option Rat
 | t :: ts,n :: ns,sum=>if (plus sum n (value m t)).2 then sumGo m ts ns (plus sum n (value m t)).1 else none
 | _,_,sum=>some sum
def below (a:Rat) (bound:Int) (strict:Bool):Bool:=if strict then ratLess a (whole bound) else !ratLess (whole bound) a
def atomIs (m:Model) (a:Atom):Option Bool:=if a.kind = 1 then some (decide (value m a.A = value m a.B)) else (sumGo m a.nums a.times (whole 0)).map fun x=>below x a.bound a.strict
def modelLit (s:Sig) (m:Model) (l:LitD):Option Bool:=if modelOk s m && atomOk s l.atom then (atomIs m l.atom).map fun b=>b != l.no else none
mutual
def caseIs (s:Sig) (nums:List Term):Case → List LitD → Nat → Bool
 | .mk k n w ts a b ks,lits,deep=>
   if 14 < deep then false else
   if k = 1 then bare (.mk k n w ts a b ks) true true false false 0 && (within n 0 (lits.length - 1) && (match whyTells s (eqsOf lits) w,lits[n.toNat]? with
    | some e,some l=>l.no && (decide (l.atom.kind = 1) && (decide (e.A = l.atom.A) && decide (e.B = l.atom.B)))
    | _,_=>false)) else
   if k = 2 then bare (.mk k n w ts a b ks) false false true false 0 && farOk (linsOf nums lits) ts else
   if k = 3 then bare (.mk k n w ts a b ks) false true false false 1 && (match whyTells s (eqsOf lits) w with
    | some e=>differ nums e.A e.B && caseIss s nums ks [lits ++ [eqLit e.A e.B]] (deep + 1)
    | none=>false) else
   if k = 4 then bare (.mk k n w ts a b ks) false false false true 3 && (differ nums a b && caseIss s nums ks ((parted a b).map fun l=>lits ++ [l]) (deep + 1)) else
   false
def caseIss (s:Sig) (nums:List Term):List Case → List (List LitD) → Nat → Bool
 | c :: cs,l :: ls,deep=>caseIs s nums c l deep && caseIss s nums cs ls deep
 | _,_,_=>true
end
def caseOk (s:Sig) (lits:List LitD) (c:Case):Bool:=bothOk s lits && caseIs s (numsOf s lits) c lits 1
def kidsOf (kind:Int):Int:=if kind = 1 then 0 else if kind = 2 then 1 else if kind = 3 ∨ kind = 4 ∨ kind = 5 ∨ kind = 6 then 2 else -1
def atom0:Atom:=⟨0,term0,term0,[],[],0,false⟩
def lit0:LitD:=⟨atom0,false⟩
def form0:Form:=.mk 0 lit0 []
def isNoLit (l:LitD):Bool:=!l.no && decide (l.atom = atom0)
def formHead (k:Int) (l:LitD) (ks:List Form):Bool:=decide (kidsOf k = ks.length) && (if k = 1 then atomWf l.atom else isNoLit l)
mutual
def formSize:Form → Nat → Nat
 | .mk k l ks,deep=>if decide (deep ≤ 5) && formHead k l ks then 1 + formSizes ks (deep + 1) else 11
def formSizes:List Form → Nat → Nat
 | [],_=>0
 | t :: ts,deep=>formSize t deep + formSizes ts deep
end
mutual
def formShape:Form → Nat → Bool
 | _,0=>false
 | .mk k l ks,d + 1=>formHead k l ks && formShapes ks d
def formShapes:List Form → Nat → Bool
 | [],_=>true
 | t :: ts,d=>formShape t d && formShapes ts d
end
mutual
def formMany:Form → Nat → Nat
 | _,0=>1
 | .mk _ _ ks,d + 1=>1 + formManys ks d
def formManys:List Form → Nat → Nat
 | [],_=>0
 | t :: ts,d=>formMany t d + formManys ts d
end
def atomIdx (list:List Atom) (a:Atom):Int:=idxOf (fun b=>decide (a = b)) list
mutual
def withAtoms (list:List Atom):Form → List Atom
 | .mk k l ks=>if k = 1 then (if atomIdx list l.atom < 0 then list ++ [l.atom] else list) else withAtomss list ks
def withAtomss (list:List Atom):List Form → List Atom
 | []=>list
 | t :: ts=>withAtomss (withAtoms list t) ts
end
def isForm (f:Form):Bool:=decide (formSize f 1 ≤ 10) && decide ((withAtoms [] f).length ≤ 6)
def plain (list:List Atom):List LitD:=list.map fun a=>⟨a,false⟩
def formOk (s:Sig) (f:Form):Bool:=isForm f && bothOk s (plain (withAtoms [] f))
mutual
def holds (p:Atom → Bool):Form → Bool
 | .mk k l ks=>holds1 k l (holdss p ks) p
def holdss (p:Atom → Bool):List Form → List Bool
 | []=>[]
 | t :: ts=>holds p t :: holdss p ts
def holds1 (k:Int) (l:LitD) (is:List Bool) (p:Atom → Bool):Bool:=
 if k = 1 then p l.atom != l.no else
 if k = 2 then !(is.getD 0 false) else
 if k = 3 then is.getD 0 false && is.getD 1 false else
 if k = 4 then is.getD 0 false || is.getD 1 false else
 if k = 5 then !(is.getD 0 false) || is.getD 1 false else
 is.getD 0 false == is.getD 1 false
end
def formIs (f:Form) (vals:List Bool):Option Bool:=
 if isForm f && decide ((withAtoms [] f).length = vals.length) then some (holds (fun a=>vals.getD (atomIdx (withAtoms [] f) a).toNat false) f) else none
def litsGo (s:Sig) (m:Model):List Atom → Option (List Bool)
 | []=>some []
 | a :: as=>match modelLit s m ⟨a,false⟩ with
   | none=>none
   | some b=>match litsGo s m as with
     | none=>none
     | some bs=>some (b :: bs)
def formModel (s:Sig) (m:Model) (f:Form):Option Bool:=
 if formOk s f then (match litsGo s m (withAtoms [] f) with | none=>none | some vals=>formIs f vals) else none
def formsGo:List Form → List Atom → List Atom
 | [],out=>out
 | f :: fs,out=>formsGo fs (withAtoms out f)
def formsAtoms (list:List Form):Option (List Atom):=
 if decide (list.length ≤ 5) && (list.all isForm && decide ((formsGo list []).length ≤ 6)) then some (formsGo list []) else none
def formsOk (s:Sig) (list:List Form):Bool:=match formsAtoms list with | none=>false | some atoms=>sigOk s && bothOk s (plain atoms)
def isMark (l many:Int):Bool:=decide (l ≠ 0) && within l (-many) many
def selGo:List Int → List Int → Int → Bool
 | _,[],_=>true
 | before,m :: ms,many=>isMark m many && (!(before.contains m) && (!(before.contains (-m)) && selGo (before ++ [m]) ms many))
def isSelection (marks:List Int) (many:Nat):Bool:=selGo [] marks many
def standFor (marks:List Int) (atoms:List Atom):List LitD:=marks.map fun m=>⟨atoms.getD (m.natAbs - 1) atom0,decide (m < 0)⟩
def lemmaOk (s:Sig) (list:List Form) (l:Lemma):Bool:=
 formsOk s list && (decide (0 < l.marks.length) && (isSelection l.marks ((formsAtoms list).getD []).length && caseOk s (standFor l.marks ((formsAtoms list).getD [])) l.case))
def solveAll (s:Sig) (m:Model) (list:List Form):Bool:=formsOk s list && (modelOk s m && list.all fun f=>decide (formModel s m f = some true))
end Go.Mod
namespace Go.Mod
open Go.Eng
mutual
theorem size_tShape:∀ (t:Term) (d:Nat),d ≤ 4 → (tShape t d = true → termSize t (5 - d) = many t d) ∧ (tShape t d = false → 13 ≤ termSize t (5 - d))
 | .mk n ks,0,_=>by simp [tShape,termSize]
 | .mk n ks,d + 1,hd=>by
   obtain ⟨h1,h2⟩:=sizes_tShape ks d (by omega)
   have e:5 - (d + 1) + 1 = 5 - d:=by omega
   have e2:5 - (d + 1) ≤ 4:=by omega
   simp only [tShape,termSize,many,e,e2,decide_true,Bool.and_true]
   cases hn:nameOk n
   ·simp
   ·rcases Classical.em (ks.length ≤ 2) with hk | hk
    ·simp only [hk,decide_true,Bool.and_self,Bool.true_and,if_true]
     exact ⟨fun h=>by rw [h1 h],fun h=>by have:=h2 h; omega⟩
    ·simp [hk]
theorem sizes_tShape:∀ (ts:List Term) (d:Nat),d ≤ 4 → (tShapes ts d = true → termSizes ts (5 - d) = manys ts d) ∧ (tShapes ts d = false → 13 ≤ termSizes ts (5 - d))
 | [],_,_=>by simp [tShapes,termSizes,manys]
 | t :: ts,d,hd=>by
   obtain ⟨h1,h2⟩:=size_tShape t d hd
   obtain ⟨h3,h4⟩:=sizes_tShape ts d hd
   simp only [tShapes,termSizes,manys]
   cases ht:tShape t d
   ·have:=h2 ht
    exact ⟨fun h=>by simp at h,fun _=>by omega⟩
   ·cases hts:tShapes ts d
    ·have:=h4 hts
     exact ⟨fun h=>by simp at h,fun _=>by omega⟩
    ·exact ⟨fun _=>by rw [h1 ht,h3 hts],fun h=>by simp at h⟩
end
def right (t:Term):Bool:=tShape t 4 && decide (many t 4 ≤ 12)
theorem right_eq (t:Term):right t = isTerm t:=by
 have h:=size_tShape t 4 (by omega)
 simp only [show 5 - 4 = 1 from rfl] at h
 obtain ⟨h1,h2⟩:=h
 unfold right isTerm
 cases h:tShape t 4
 ·have:=h2 h
  simp only [Bool.false_and]
  symm
  simp only [decide_eq_false_iff_not]
  omega
 ·rw [← h1 h]
  simp
theorem isTerm_tShape {t:Term} (h:isTerm t = true):tShape t 4 = true:=by
 rw [← right_eq] at h
 simp only [right,Bool.and_eq_true] at h
 exact h.1
mutual
theorem tShape_up:∀ (t:Term) (d:Nat),tShape t d = true → tShape t (d + 1) = true
 | .mk n ks,0,h=>by simp [tShape] at h
 | .mk n ks,d + 1,h=>by
   simp only [tShape,Bool.and_eq_true] at h ⊢
   exact ⟨h.1,h.2.1,tShapes_up ks d h.2.2⟩
theorem tShapes_up:∀ (ts:List Term) (d:Nat),tShapes ts d = true → tShapes ts (d + 1) = true
 | [],_,_=>by simp [tShapes]
 | t :: ts,d,h=>by
   simp only [tShapes,Bool.and_eq_true] at h ⊢
   exact ⟨tShape_up t d h.1,tShapes_up ts d h.2⟩
end
theorem tShapes_mem:∀ {ts:List Term} {d:Nat},tShapes ts d = true → ∀ t ∈ ts,tShape t d = true
 | [],_,_,t,ht=>by simp at ht
 | a :: ts,d,h,t,ht=>by
   simp only [tShapes,Bool.and_eq_true] at h
   rcases List.mem_cons.1 ht with rfl | ht
   ·exact h.1
   ·exact tShapes_mem h.2 t ht
theorem tShape_kids {t:Term} {d:Nat} (h:tShape t (d + 1) = true):nameOk t.name = true ∧ t.kids.length ≤ 2 ∧ tShapes t.kids d = true:=by
 cases t with
 | mk n ks=>
   simp only [tShape,Bool.and_eq_true,decide_eq_true_eq] at h
   exact ⟨h.1,h.2.1,h.2.2⟩
mutual
theorem many_le:∀ (t:Term) (d:Nat),tShape t d = true → many t d + 1 ≤ 2 ^ d
 | .mk n ks,0,h=>by simp [tShape] at h
 | .mk n ks,d + 1,h=>by
   simp only [tShape,Bool.and_eq_true,decide_eq_true_eq] at h
   have:=manys_le ks d h.2.2
   simp only [many]
   have h3:ks.length * (2 ^ d - 1) ≤ 2 * (2 ^ d - 1):=Nat.mul_le_mul_right _ h.2.1
   have h4:1 ≤ 2 ^ d:=Nat.one_le_two_pow
   rw [Nat.pow_succ]
   omega
theorem manys_le:∀ (ts:List Term) (d:Nat),tShapes ts d = true → manys ts d ≤ ts.length * (2 ^ d - 1)
 | [],_,_=>by simp [manys]
 | t :: ts,d,h=>by
   simp only [tShapes,Bool.and_eq_true] at h
   have h1:=many_le t d h.1
   have h2:=manys_le ts d h.2
   simp only [manys,List.length_cons,Nat.add_mul,Nat.one_mul]
   omega
end
mutual
theorem termSize_le:∀ (t:Term) (deep:Nat),1 ≤ deep → deep ≤ 5 → termSize t deep + 14 ≤ 27 * 2 ^ (5 - deep)
 | .mk n ks,deep,h1,h5=>by
   simp only [termSize]
   split
   ·rename_i h
    simp only [Bool.and_eq_true,decide_eq_true_eq] at h
    have:=termSizes_le ks (deep + 1) (by omega) (by omega)
    have h3:ks.length * (27 * 2 ^ (5 - (deep + 1)) - 14) ≤ 2 * (27 * 2 ^ (5 - (deep + 1)) - 14):=Nat.mul_le_mul_right _ h.1.2
    have e:5 - deep = (5 - (deep + 1)) + 1:=by omega
    have h4:1 ≤ 2 ^ (5 - (deep + 1)):=Nat.one_le_two_pow
    rw [e,Nat.pow_succ]
    omega
   ·have h4:1 ≤ 2 ^ (5 - deep):=Nat.one_le_two_pow
    omega
theorem termSizes_le:∀ (ts:List Term) (deep:Nat),1 ≤ deep → deep ≤ 5 → termSizes ts deep ≤ ts.length * (27 * 2 ^ (5 - deep) - 14)
 | [],_,_,_=>by simp [termSizes]
 | t :: ts,deep,h1,h5=>by
   have h2:=termSize_le t deep h1 h5
   have h3:=termSizes_le ts deep h1 h5
   simp only [termSizes,List.length_cons,Nat.add_mul,Nat.one_mul]
   omega
end
theorem withPartss_fold:∀ (ts l:List Term),withPartss l ts = ts.foldl withParts l
 | [],_=>rfl
 | t :: ts,l=>by simp only [withPartss,List.foldl_cons,withPartss_fold ts]
theorem withPartss_snoc {ts:List Term} {i:Nat} (h:i < ts.length) (l:List Term):withPartss l (ts.take (i + 1)) = withParts (withPartss l (ts.take i)) ts[i]:=by
 have e:ts.take (i + 1) = ts.take i ++ [ts[i]]:=by rw [List.take_add_one,List.getElem?_eq_getElem h]; rfl
 rw [e,withPartss_fold,withPartss_fold,List.foldl_append]
 rfl
theorem withParts_eq (l:List Term) (t:Term):withParts l t = if termIdx (withPartss l t.kids) t < 0 then withPartss l t.kids ++ [t] else withPartss l t.kids:=by
 cases t; rfl
mutual
theorem withParts_len:∀ (t:Term) (d:Nat) (l:List Term),tShape t d = true → (withParts l t).length ≤ l.length + many t d
 | .mk n ks,0,l,h=>by simp [tShape] at h
 | .mk n ks,d + 1,l,h=>by
   simp only [tShape,Bool.and_eq_true] at h
   have:=withPartss_len ks d l h.2.2
   simp only [withParts,many]
   split
   ·simp only [List.length_append,List.length_cons,List.length_nil]
    omega
   ·omega
theorem withPartss_len:∀ (ts:List Term) (d:Nat) (l:List Term),tShapes ts d = true → (withPartss l ts).length ≤ l.length + manys ts d
 | [],_,_,_=>by simp [withPartss]
 | t :: ts,d,l,h=>by
   simp only [tShapes,Bool.and_eq_true] at h
   have h1:=withParts_len t d l h.1
   have h2:=withPartss_len ts d (withParts l t) h.2
   simp only [withPartss,manys]
   omega
end
theorem tShapes_take:∀ {ts:List Term} {d:Nat},tShapes ts d = true → ∀ i,tShapes (ts.take i) d = true
 | [],_,_,i=>by simp [tShapes]
 | t :: ts,d,h,0=>by simp [tShapes]
 | t :: ts,d,h,i + 1=>by
   simp only [tShapes,Bool.and_eq_true,List.take_succ_cons] at h ⊢
   exact ⟨h.1,tShapes_take h.2 i⟩
theorem withParts_le {t:Term} {d:Nat} {l:List Term} (h:tShape t d = true) (hd:d ≤ 4):(withParts l t).length ≤ l.length + 15:=by
 have h1:=withParts_len t d l h
 have h2:=many_le t d h
 have h3:2 ^ d ≤ 2 ^ 4:=Nat.pow_le_pow_right (by omega) hd
 omega
theorem withPartss_le {t:Term} {d:Nat} {l:List Term} (h:tShape t (d + 1) = true) (hd:d ≤ 3) (i:Nat):(withPartss l (t.kids.take i)).length ≤ l.length + 14:=by
 obtain ⟨_,h1,h2⟩:=tShape_kids h
 have h3:=withPartss_len (t.kids.take i) d l (tShapes_take h2 i)
 have h4:=manys_le (t.kids.take i) d (tShapes_take h2 i)
 have h5:2 ^ d ≤ 2 ^ 3:=Nat.pow_le_pow_right (by omega) hd
 have h6:(t.kids.take i).length ≤ 2:=by simp; omega
 have h7:(t.kids.take i).length * (2 ^ d - 1) ≤ 2 * (2 ^ d - 1):=Nat.mul_le_mul_right _ h6
 omega
end Go.Mod
namespace Go.Mod
open Go.Eng
theorem isSort_iff {n:Int}:isSort n = true ↔ n = 0 ∨ n = 1:=by simp [isSort]
theorem symsGo_mem:∀ {l:List Sym} {p:Option Str},symsGo p l = true → ∀ x ∈ l,symOk x = true
 | [],_,_,x,hx=>by simp at hx
 | a :: l,p,h,x,hx=>by
   simp only [symsGo,Bool.and_eq_true] at h
   rcases List.mem_cons.1 hx with rfl | hx
   ·exact h.1
   ·exact symsGo_mem h.2.2 x hx
theorem symbol_ok {s:Sig} {n:Str} {x:Sym} (hs:sigOk s = true) (h:symbol s n = some x):symOk x = true:=by
 simp only [sigOk,Bool.and_eq_true] at hs
 exact symsGo_mem hs.1 x (List.mem_of_find?_eq_some h)
theorem symOk_sort {x:Sym} (h:symOk x = true):isSort x.sort = true ∧ ∀ n ∈ x.args,isSort n = true:=by
 simp only [symOk,Bool.and_eq_true,List.all_eq_true] at h
 exact ⟨h.2.2.1,h.2.2.2⟩
theorem sortOf_sort {s:Sig} {t:Term} {n:Int} (hs:sigOk s = true) (h:sortOf s t = some n):isSort n = true:=by
 cases t with
 | mk nm ks=>
   simp only [sortOf] at h
   cases hx:symbol s nm with
   | none=>rw [hx] at h; cases h
   | some x=>
     rw [hx] at h
     simp only at h
     split at h
     ·cases h
      exact (symOk_sort (symbol_ok hs hx)).1
     ·cases h
def stopN (r:Str):Prop:=∀ c x,r = c :: x → letter c = false
def stopT (r:Str):Prop:=∀ c x,r = c :: x → letter c = false ∧ c ≠ 40
theorem stopT.n {r:Str} (h:stopT r):stopN r:=fun c x e=>(h c x e).1
mutual
theorem text_len:∀ (t:Term) (d:Nat),tShape t d = true → (termText t).length + 6 ≤ 8 * 2 ^ d
 | t,0,h=>by simp [tShape] at h
 | .mk n [],d + 1,h=>by
   simp only [tShape,Bool.and_eq_true] at h
   have h1:n.length ≤ 2:=by
    have:=h.1
    simp only [nameOk,Bool.and_eq_true] at this
    have:=withinB_iff.1 this.1
    omega
   have h4:1 ≤ 2 ^ d:=Nat.one_le_two_pow
   simp only [termText,Nat.pow_succ]
   omega
 | .mk n (k :: ks),d + 1,h=>by
   simp only [tShape,Bool.and_eq_true,decide_eq_true_eq] at h
   have h1:n.length ≤ 2:=by
    have:=h.1
    simp only [nameOk,Bool.and_eq_true] at this
    have:=withinB_iff.1 this.1
    omega
   have h2:=texts_len (k :: ks) d h.2.2
   have h4:1 ≤ 2 ^ d:=Nat.one_le_two_pow
   simp only [termTexts] at h2
   simp only [termText,List.length_append,List.length_cons,List.length_nil,Nat.pow_succ]
   have h3:(k :: ks).length * (8 * 2 ^ d - 5) ≤ 2 * (8 * 2 ^ d - 5):=Nat.mul_le_mul_right _ h.2.1
   omega
theorem texts_len:∀ (ts:List Term) (d:Nat),tShapes ts d = true → (commas (termTexts ts)).length ≤ ts.length * (8 * 2 ^ d - 5)
 | [],_,_=>by simp [termTexts,commas]
 | [t],d,h=>by
   simp only [tShapes,Bool.and_eq_true] at h
   have:=text_len t d h.1
   simp only [termTexts,commas,List.length_cons,List.length_nil]
   omega
 | t :: u :: ts,d,h=>by
   simp only [tShapes,Bool.and_eq_true] at h
   have h1:=text_len t d h.1
   have h2:=texts_len (u :: ts) d (by simp only [tShapes,Bool.and_eq_true]; exact h.2)
   simp only [termTexts] at h2
   simp only [termTexts,commas,List.length_append,List.length_cons] at h2 ⊢
   have e:(ts.length + 1 + 1) * (8 * 2 ^ d - 5) = (ts.length + 1) * (8 * 2 ^ d - 5) + (8 * 2 ^ d - 5):=by rw [Nat.add_mul (ts.length + 1) 1]; omega
   rw [e]
   omega
end
theorem termText_len {t:Term} {d:Nat} (h:tShape t d = true) (hd:d ≤ 4):(termText t).length ≤ 122:=by
 have h1:=text_len t d h
 have h2:2 ^ d ≤ 2 ^ 4:=Nat.pow_le_pow_right (by omega) hd
 omega
def setGo (nums:List Term):List Term → List Int → List Int → List Int
 | t :: ts,n :: ns,cs=>setGo nums ts ns (cs.set (termIdx nums t).toNat n)
 | _,_,cs=>cs
theorem getD_set_ne {cs:List Int} {i k:Nat} {v:Int} (h:i ≠ k):(cs.set i v).getD k 0 = cs.getD k 0:=by
 simp [List.getD,List.getElem?_set_ne h]
end Go.Mod
namespace Go.Mod
open Go.Eng
theorem take_snoc {α:Type} {xs:List α} {i:Nat} (h:i < xs.length):xs.take (i + 1) = xs.take i ++ [xs[i]]:=by rw [List.take_add_one,List.getElem?_eq_getElem h]; rfl
theorem numsGo_cons (p:Option Term) (t:Term) (ts:List Term) (n:Int) (ns:List Int):numsGo p (t :: ts) (n :: ns) = (isTerm t && (within n (-50) 50 && (decide (n ≠ 0) && ((match p with | none=>true | some q=>sLess (termText q) (termText t)) && numsGo (some t) ts ns)))):=rfl
theorem numsGo_mem:∀ {ts:List Term} {ns:List Int} {p:Option Term},numsGo p ts ns = true → ns.length = ts.length → (∀ t ∈ ts,isTerm t = true) ∧ (∀ n ∈ ns,-50 ≤ n ∧ n ≤ 50)
 | [],[],_,_,_=>by simp
 | [],_ :: _,_,_,h=>by simp at h
 | _ :: _,[],_,_,h=>by simp at h
 | t :: ts,n :: ns,p,h,hl=>by
   rw [numsGo_cons] at h
   simp only [Bool.and_eq_true] at h
   obtain ⟨h1,h2⟩:=numsGo_mem h.2.2.2.2 (by simpa using hl)
   have h3:=withinB_iff.1 h.2.1
   refine ⟨fun u hu=>?_,fun m hm=>?_⟩
   ·rcases List.mem_cons.1 hu with rfl | hu
    ·exact h.1
    ·exact h1 u hu
   ·rcases List.mem_cons.1 hm with rfl | hm
    ·exact h3
    ·exact h2 m hm
theorem atomWf_sum {a:Atom} (h:atomWf a = true) (k:a.kind = 2):isNone a.A = true ∧ isNone a.B = true ∧ a.nums.length ≤ 4 ∧ a.times.length = a.nums.length ∧ (-1000 ≤ a.bound ∧ a.bound ≤ 1000) ∧ numsGo none a.nums a.times = true:=by
 rw [atomWf,if_neg (by omega),if_pos k] at h
 simp only [Bool.and_eq_true,decide_eq_true_eq] at h
 have h3:=withinB_iff.1 h.2.2.1
 have h5:=withinB_iff.1 h.2.2.2.2.1
 exact ⟨h.1,h.2.1,by omega,h.2.2.2.1,h5,h.2.2.2.2.2⟩
theorem atomWf_kind {a:Atom} (h:atomWf a = true):a.kind = 1 ∨ a.kind = 2:=by
 rcases Classical.em (a.kind = 1) with k1 | k1
 ·exact .inl k1
 ·rcases Classical.em (a.kind = 2) with k2 | k2
  ·exact .inr k2
  ·simp [atomWf,k1,k2] at h
theorem atomWf_eq {a:Atom} (h:atomWf a = true) (k:a.kind = 1):isTerm a.A = true ∧ isTerm a.B = true:=by
 simp only [atomWf,k,if_true,Bool.and_eq_true] at h
 exact ⟨h.1,h.2.1⟩
theorem atomTerms_ok {a:Atom} (h:atomWf a = true):(atomTerms a).length ≤ 4 ∧ ∀ t ∈ atomTerms a,isTerm t = true:=by
 unfold atomTerms
 rcases Classical.em (a.kind = 1) with k1 | k1
 ·rw [if_pos k1]
  have:=atomWf_eq h k1
  refine ⟨by simp,fun t ht=>?_⟩
  simp only [List.mem_cons,List.not_mem_nil,or_false] at ht
  rcases ht with rfl | rfl
  ·exact this.1
  ·exact this.2
 ·rw [if_neg k1]
  have k2:a.kind = 2:=(atomWf_kind h).resolve_left k1
  have:=atomWf_sum h k2
  exact ⟨this.2.2.1,(numsGo_mem this.2.2.2.2.2 this.2.2.2.1).1⟩
def allTerms (lits:List LitD):List Term:=lits.flatMap fun l=>atomTerms l.atom
theorem termsOf_eq (lits:List LitD):termsOf lits = termParts (allTerms lits):=rfl
theorem allTerms_snoc {lits:List LitD} {i:Nat} (h:i < lits.length):allTerms (lits.take (i + 1)) = allTerms (lits.take i) ++ atomTerms lits[i].atom:=by
 rw [take_snoc h]
 simp only [allTerms,List.flatMap_append,List.flatMap_cons,List.flatMap_nil,List.append_nil]
theorem allTerms_ok:∀ {lits:List LitD},(∀ l ∈ lits,atomWf l.atom = true) → (allTerms lits).length ≤ 4 * lits.length ∧ ∀ t ∈ allTerms lits,isTerm t = true
 | [],_=>by simp [allTerms]
 | l :: ls,h=>by
   obtain ⟨h1,h2⟩:=allTerms_ok (lits:=ls) fun x hx=>h x (by simp [hx])
   obtain ⟨h3,h4⟩:=atomTerms_ok (h l (by simp))
   simp only [allTerms,List.flatMap_cons,List.length_append,List.length_cons,List.mem_append] at h1 h2 ⊢
   refine ⟨by omega,fun t ht=>?_⟩
   rcases ht with ht | ht
   ·exact h4 t ht
   ·exact h2 t ht
theorem partsGo_all:∀ {ts out:List Term},(∀ t ∈ ts,isTerm t = true) → partsGo ts out = withPartss out ts
 | [],_,_=>by simp [partsGo,withPartss]
 | t :: ts,out,h=>by
   simp only [partsGo,withPartss,h t (by simp),if_true]
   exact partsGo_all fun u hu=>h u (by simp [hu])
theorem termParts_all {ts:List Term} (h:∀ t ∈ ts,isTerm t = true):termParts ts = withPartss [] ts:=partsGo_all h
mutual
theorem withParts_right:∀ (t:Term) (d:Nat) (l:List Term),d ≤ 4 → tShape t d = true → many t d ≤ 12 → (∀ u ∈ l,isTerm u = true) → ∀ u ∈ withParts l t,isTerm u = true
 | .mk n ks,0,l,_,h,_,_,u,_=>by simp [tShape] at h
 | .mk n ks,d + 1,l,hd,h,hm,hl,u,hu=>by
   have h':=h
   simp only [tShape,Bool.and_eq_true] at h'
   have hk:=withPartss_right ks d l (by omega) h'.2.2 (by simp only [many] at hm; omega) hl
   simp only [withParts] at hu
   split at hu
   ·simp only [List.mem_append,List.mem_cons,List.not_mem_nil,or_false] at hu
    rcases hu with hu | rfl
    ·exact hk u hu
    ·rw [← right_eq]
     have up:∀ (k:Nat) (t:Term) (d:Nat),d + k ≤ 4 → tShape t d = true → tShape t (d + k) = true:=by
      intro k
      induction k with
      | zero=>intro t d _ h; exact h
      | succ k ih=>intro t d hk h; rw [← Nat.add_assoc]; exact tShape_up _ _ (ih t d (by omega) h)
     have s4:=up (4 - (d + 1)) _ (d + 1) (by omega) h
     rw [show d + 1 + (4 - (d + 1)) = 4 by omega] at s4
     have m1:=(size_tShape (.mk n ks) (d + 1) hd).1 h
     have m2:=(size_tShape (.mk n ks) 4 (by omega)).1 s4
     simp only [right,s4,Bool.true_and,decide_eq_true_eq]
     have mm:∀ (k:Nat) (t:Term) (d:Nat),d + k ≤ 4 → tShape t d = true → many t (d + k) = many t d:=by
      intro k
      induction k with
      | zero=>intro t d _ _; rfl
      | succ k ih=>
        intro t d hk h
        have h1:=ih t d (by omega) h
        have:∀ (d:Nat) (t:Term),tShape t d = true → many t (d + 1) = many t d:=by
         intro d
         induction d with
         | zero=>intro t h; cases t; simp [tShape] at h
         | succ d ihd=>
           intro t h
           cases t with
           | mk n ks=>
             simp only [tShape,Bool.and_eq_true] at h
             have hs:∀ (ks:List Term),tShapes ks d = true → manys ks (d + 1) = manys ks d:=by
              intro ks
              induction ks with
              | nil=>intro _; simp [manys]
              | cons a as iha=>
                intro h
                simp only [tShapes,Bool.and_eq_true] at h
                simp only [manys,ihd a h.1,iha h.2]
             simp only [many,hs ks h.2.2]
        rw [← Nat.add_assoc,this (d + k) t (up k t d (by omega) h),h1]
     have:=mm (4 - (d + 1)) (.mk n ks) (d + 1) (by omega) h
     rw [show d + 1 + (4 - (d + 1)) = 4 by omega] at this
     omega
   ·exact hk u hu
theorem withPartss_right:∀ (ts:List Term) (d:Nat) (l:List Term),d ≤ 4 → tShapes ts d = true → manys ts d ≤ 12 → (∀ u ∈ l,isTerm u = true) → ∀ u ∈ withPartss l ts,isTerm u = true
 | [],_,l,_,_,_,hl,u,hu=>hl u (by simpa [withPartss] using hu)
 | t :: ts,d,l,hd,h,hm,hl,u,hu=>by
   simp only [tShapes,Bool.and_eq_true] at h
   simp only [manys] at hm
   simp only [withPartss] at hu
   exact withPartss_right ts d _ hd h.2 (by omega) (withParts_right t d l hd h.1 (by omega) hl) u hu
end
theorem withPartss_terms:∀ (ts l:List Term),(∀ t ∈ ts,isTerm t = true) → (∀ u ∈ l,isTerm u = true) → ∀ u ∈ withPartss l ts,isTerm u = true
 | [],l,_,hl,u,hu=>hl u (by simpa [withPartss] using hu)
 | t :: ts,l,ht,hl,u,hu=>by
   simp only [withPartss] at hu
   have h4:=ht t (by simp)
   have hr:=h4
   rw [← right_eq] at hr
   simp only [right,Bool.and_eq_true,decide_eq_true_eq] at hr
   exact withPartss_terms ts _ (fun x hx=>ht x (by simp [hx])) (withParts_right t 4 l (by omega) hr.1 hr.2 hl) u hu
theorem termParts_terms {ts:List Term} (h:∀ t ∈ ts,isTerm t = true):∀ u ∈ termParts ts,isTerm u = true:=by
 rw [termParts_all h]
 exact withPartss_terms ts [] h (by simp)
theorem rowsI_set {cs:List Int} {i:Nat} {v:Int} (h:i < cs.length):(rowsI cs).set i [.val (.int .i64 v)] = rowsI (cs.set i v):=by
 simp [rowsI,List.map_set]
structure Fit (nums:List Term) (l:LitD):Prop where
 wf:atomWf l.atom = true
 sum:l.atom.kind = 2 → ∀ t ∈ l.atom.nums,t ∈ nums
 eq:l.atom.kind = 1 → (l.atom.A ∈ nums ↔ l.atom.B ∈ nums)
end Go.Mod
namespace Go.Mod
open Go.Eng
theorem kidsOf_le (k:Int):kidsOf k ≤ 2:=by unfold kidsOf; split <;> (try split) <;> (try split) <;> omega
theorem formHead_len {k:Int} {l:LitD} {ks:List Form} (h:formHead k l ks = true):ks.length ≤ 2:=by
 simp only [formHead,Bool.and_eq_true,decide_eq_true_eq] at h
 have:=kidsOf_le k
 omega
mutual
theorem size_formShape:∀ (f:Form) (d:Nat),d ≤ 5 → (formShape f d = true → formSize f (6 - d) = formMany f d) ∧ (formShape f d = false → 11 ≤ formSize f (6 - d))
 | .mk k l ks,0,_=>by simp [formShape,formSize]
 | .mk k l ks,d + 1,hd=>by
   obtain ⟨h1,h2⟩:=sizes_formShape ks d (by omega)
   have e:6 - (d + 1) + 1 = 6 - d:=by omega
   have e2:6 - (d + 1) ≤ 5:=by omega
   simp only [formShape,formSize,formMany,e,e2,decide_true,Bool.true_and]
   cases hn:formHead k l ks
   ·simp
   ·simp only [Bool.true_and,if_true]
    exact ⟨fun h=>by rw [h1 h],fun h=>by have:=h2 h; omega⟩
theorem sizes_formShape:∀ (ts:List Form) (d:Nat),d ≤ 5 → (formShapes ts d = true → formSizes ts (6 - d) = formManys ts d) ∧ (formShapes ts d = false → 11 ≤ formSizes ts (6 - d))
 | [],_,_=>by simp [formShapes,formSizes,formManys]
 | t :: ts,d,hd=>by
   obtain ⟨h1,h2⟩:=size_formShape t d hd
   obtain ⟨h3,h4⟩:=sizes_formShape ts d hd
   simp only [formShapes,formSizes,formManys]
   cases ht:formShape t d
   ·have:=h2 ht
    exact ⟨fun h=>by simp at h,fun _=>by omega⟩
   ·cases hts:formShapes ts d
    ·have:=h4 hts
     exact ⟨fun h=>by simp at h,fun _=>by omega⟩
    ·exact ⟨fun _=>by rw [h1 ht,h3 hts],fun h=>by simp at h⟩
end
def fright (f:Form):Bool:=formShape f 5 && (decide (formMany f 5 ≤ 10) && decide ((withAtoms [] f).length ≤ 6))
theorem fright_eq (f:Form):fright f = isForm f:=by
 have h:=size_formShape f 5 (by omega)
 simp only [show 6 - 5 = 1 from rfl] at h
 obtain ⟨h1,h2⟩:=h
 unfold fright isForm
 cases h:formShape f 5
 ·have:=h2 h
  have:¬ formSize f 1 ≤ 10:=by omega
  simp [this]
 ·rw [← h1 h]
  simp
theorem isForm_shape {f:Form} (h:isForm f = true):formShape f 5 = true ∧ formMany f 5 ≤ 10 ∧ (withAtoms [] f).length ≤ 6:=by
 rw [← fright_eq] at h
 simpa [fright] using h
theorem formShapes_mem:∀ {ts:List Form} {d:Nat},formShapes ts d = true → ∀ t ∈ ts,formShape t d = true
 | [],_,_,t,ht=>by simp at ht
 | a :: ts,d,h,t,ht=>by
   simp only [formShapes,Bool.and_eq_true] at h
   rcases List.mem_cons.1 ht with rfl | ht
   ·exact h.1
   ·exact formShapes_mem h.2 t ht
theorem formShape_kids {f:Form} {d:Nat} (h:formShape f (d + 1) = true):formHead f.kind f.lit f.kids = true ∧ f.kids.length ≤ 2 ∧ formShapes f.kids d = true:=by
 cases f with
 | mk k l ks=>
   simp only [formShape,Bool.and_eq_true] at h
   exact ⟨h.1,formHead_len h.1,h.2⟩
mutual
theorem formMany_le:∀ (f:Form) (d:Nat),formShape f d = true → formMany f d + 1 ≤ 2 ^ d
 | .mk k l ks,0,h=>by simp [formShape] at h
 | .mk k l ks,d + 1,h=>by
   simp only [formShape,Bool.and_eq_true] at h
   have:=formManys_le ks d h.2
   simp only [formMany]
   have h3:ks.length * (2 ^ d - 1) ≤ 2 * (2 ^ d - 1):=Nat.mul_le_mul_right _ (formHead_len h.1)
   have h4:1 ≤ 2 ^ d:=Nat.one_le_two_pow
   rw [Nat.pow_succ]
   omega
theorem formManys_le:∀ (ts:List Form) (d:Nat),formShapes ts d = true → formManys ts d ≤ ts.length * (2 ^ d - 1)
 | [],_,_=>by simp [formManys]
 | t :: ts,d,h=>by
   simp only [formShapes,Bool.and_eq_true] at h
   have h1:=formMany_le t d h.1
   have h2:=formManys_le ts d h.2
   simp only [formManys,List.length_cons,Nat.add_mul,Nat.one_mul]
   omega
end
mutual
theorem formSize_le:∀ (f:Form) (deep:Nat),1 ≤ deep → deep ≤ 6 → formSize f deep + 12 ≤ 23 * 2 ^ (6 - deep)
 | .mk k l ks,deep,h1,h5=>by
   simp only [formSize]
   split
   ·rename_i h
    simp only [Bool.and_eq_true,decide_eq_true_eq] at h
    have:=formSizes_le ks (deep + 1) (by omega) (by omega)
    have h3:ks.length * (23 * 2 ^ (6 - (deep + 1)) - 12) ≤ 2 * (23 * 2 ^ (6 - (deep + 1)) - 12):=Nat.mul_le_mul_right _ (formHead_len h.2)
    have e:6 - deep = (6 - (deep + 1)) + 1:=by omega
    have h4:1 ≤ 2 ^ (6 - (deep + 1)):=Nat.one_le_two_pow
    rw [e,Nat.pow_succ]
    omega
   ·have h4:1 ≤ 2 ^ (6 - deep):=Nat.one_le_two_pow
    omega
theorem formSizes_le:∀ (ts:List Form) (deep:Nat),1 ≤ deep → deep ≤ 6 → formSizes ts deep ≤ ts.length * (23 * 2 ^ (6 - deep) - 12)
 | [],_,_,_=>by simp [formSizes]
 | t :: ts,deep,h1,h5=>by
   have h2:=formSize_le t deep h1 h5
   have h3:=formSizes_le ts deep h1 h5
   simp only [formSizes,List.length_cons,Nat.add_mul,Nat.one_mul]
   omega
end
theorem withAtomss_fold:∀ (ts:List Form) (l:List Atom),withAtomss l ts = ts.foldl withAtoms l
 | [],_=>rfl
 | t :: ts,l=>by simp only [withAtomss,List.foldl_cons,withAtomss_fold ts]
theorem withAtomss_snoc {ts:List Form} {i:Nat} (h:i < ts.length) (l:List Atom):withAtomss l (ts.take (i + 1)) = withAtoms (withAtomss l (ts.take i)) ts[i]:=by
 have e:ts.take (i + 1) = ts.take i ++ [ts[i]]:=by rw [List.take_add_one,List.getElem?_eq_getElem h]; rfl
 rw [e,withAtomss_fold,withAtomss_fold,List.foldl_append]
 rfl
theorem withAtoms_eq (l:List Atom) (f:Form):withAtoms l f = if f.kind = 1 then (if atomIdx l f.lit.atom < 0 then l ++ [f.lit.atom] else l) else withAtomss l f.kids:=by
 cases f; rfl
theorem atomIdxGo_nn {a:Atom}:∀ {l:List Atom} {i:Int},0 ≤ i → (0 ≤ idxGo (fun b=>decide (a = b)) l i ↔ a ∈ l)
 | [],i,_=>by simp [idxGo]
 | x :: xs,i,h=>by
   simp only [idxGo,decide_eq_true_eq,List.mem_cons]
   split
   ·rename_i e
    simp [e,h]
   ·rename_i e
    rw [atomIdxGo_nn (l:=xs) (by omega)]
    simp [e]
theorem atomIdx_nn {l:List Atom} {a:Atom}:0 ≤ atomIdx l a ↔ a ∈ l:=atomIdxGo_nn (by omega)
def inside (l:List Atom) (f:Form):Prop:=∀ u ∈ withAtoms [] f,u ∈ l
mutual
theorem withAtoms_len:∀ (f:Form) (d:Nat) (l:List Atom),formShape f d = true → (withAtoms l f).length ≤ l.length + formMany f d
 | .mk k x ks,0,_,h=>by simp [formShape] at h
 | .mk k x ks,d + 1,l,h=>by
   simp only [formShape,Bool.and_eq_true] at h
   simp only [withAtoms,formMany]
   split
   ·split
    ·simp
    ·omega
   ·have:=withAtomss_len ks d l h.2
    omega
theorem withAtomss_len:∀ (ts:List Form) (d:Nat) (l:List Atom),formShapes ts d = true → (withAtomss l ts).length ≤ l.length + formManys ts d
 | [],_,_,_=>by simp [withAtomss,formManys]
 | t :: ts,d,l,h=>by
   simp only [formShapes,Bool.and_eq_true] at h
   have h1:=withAtoms_len t d l h.1
   have h2:=withAtomss_len ts d (withAtoms l t) h.2
   simp only [withAtomss,formManys]
   omega
end
theorem plain_snoc {l:List Atom} {i:Nat} (h:i < l.length):plain (l.take (i + 1)) = plain (l.take i) ++ [⟨l[i],false⟩]:=by
 have e:l.take (i + 1) = l.take i ++ [l[i]]:=by rw [List.take_add_one,List.getElem?_eq_getElem h]; rfl
 simp only [plain,e,List.map_append,List.map_cons,List.map_nil]
theorem plain_len (l:List Atom):(plain l).length = l.length:=by simp [plain]
end Go.Mod
namespace Go.Mod
open Go.Eng
def ratsOk (as:List Rat):Bool:=as.all ratOk
def ratsLess:List Rat → List Rat → Bool
 | a :: as,b :: bs=>if a = b then ratsLess as bs else ratLess a b
 | _,_=>false
def rowLess (a b:Row):Bool:=if a.name = b.name then (if a.args.length = b.args.length then ratsLess a.args b.args else decide (a.args.length < b.args.length)) else sLess a.name b.name
def rowsLess:Option Row → List Row → Bool
 | _,[]=>true
 | p,r :: rs=>rowWf r && ((match p with | none=>true | some q=>rowLess q r) && rowsLess (some r) rs)
def cut:List Row → Row → Nat
 | [],_=>0
 | r :: rs,t=>if cmpRow r t < 0 then cut rs t + 1 else 0
def Mono (rs:List Row) (t:Row):Prop:=rs.Pairwise (fun a b=>cmpRow b t < 0 → cmpRow a t < 0)
def found (rs:List Row) (t:Row):Bool:=match rs[cut rs t]? with | some r=>decide (cmpRow r t = 0) | none=>false
end Go.Mod
namespace Go.Mod
open Go.Eng
def at0:List Int → Int → Int
 | [],_=>0
 | x :: xs,n=>if x = n then 1 else if x = -n then -1 else at0 xs n
theorem formsGo_fold:∀ (fs:List Form) (out:List Atom),formsGo fs out = withAtomss out fs
 | [],_=>rfl
 | f :: fs,out=>by simp only [formsGo,withAtomss,formsGo_fold fs]
theorem withAtomss_len10:∀ (fs:List Form) (l:List Atom),(∀ f ∈ fs,isForm f = true) → (withAtomss l fs).length ≤ l.length + 10 * fs.length
 | [],l,_=>by simp [withAtomss]
 | f :: fs,l,h=>by
   have h0:=isForm_shape (h f (by simp))
   have h1:=withAtoms_len f 5 l h0.1
   have h2:=withAtomss_len10 fs (withAtoms l f) fun x hx=>h x (by simp [hx])
   simp only [withAtomss,List.length_cons]
   omega
theorem formsAtoms_eq (list:List Form):formsAtoms list = if list.length ≤ 5 ∧ list.all isForm = true ∧ (withAtomss [] list).length ≤ 6 then some (withAtomss [] list) else none:=by
 unfold formsAtoms
 rw [formsGo_fold]
 simp only [Bool.and_eq_true,decide_eq_true_eq]
end Go.Mod
