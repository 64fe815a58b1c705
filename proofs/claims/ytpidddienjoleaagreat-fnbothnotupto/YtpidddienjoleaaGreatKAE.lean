/-
  The data of the program as plain Lean types, and how they lie in memory, cell by cell. No program is walked here. What the functions of the first chapters compute, in plain Lean: numbers, constraints, terms, equations, atoms. No program is walked here. What the functions of the later chapters compute, in plain Lean: models, certificates, formulas, clauses. No program is walked here. The greater of a number and its negative. A step towards the exact laws. Plain laws on terms: two ways to measure a term are one. No program is walked here. Plain laws on sorts, texts and sums: what the reference says otherwise is the same. No program is walked here. Plain laws on constraints and their bounds. No program is walked here. Plain laws on literals, their terms and their sums. No program is walked here. Plain laws on the order of texts. No program is walked here. Plain laws on what is told of numbers. No program is walked here. Plain laws on models: two ways to compare rows are one; what is found by halving is what is found by looking at all. No program is walked here. Plain laws on sums and on selections. No program is walked here. Plain laws on numbers: greatest common divisors step by step, bounds of products and quotients; formulas in models. No program is walked here.
-/
import Derived.Test.YtpidddienjoleaaGreatKAD
set_option linter.unusedVariables false
set_option linter.unusedSimpArgs false
namespace Go.Mod
open Go.Eng
abbrev Str:=List UInt8
def rowsI (ns:List Int):List (List D):=ns.map fun n=>[.val (.int .i64 n)]
def rowsB (ns:List Bool):List (List D):=ns.map fun n=>[.val (.bool n)]
def rowsS (ns:List Str):List (List D):=ns.map fun n=>[.str n]
def rowsII (ns:List (List Int)):List (List D):=ns.map fun n=>[.lst (rowsI n)]
theorem rowsI_len (ns:List Int):(rowsI ns).length = ns.length:=by simp [rowsI]
theorem rowsI_row {ns:List Int} {i:Nat} (h:i < ns.length):row (rowsI ns) i = [.val (.int .i64 ns[i])]:=by simp [rowsI,row,List.getD,List.getElem?_eq_getElem h]
theorem rowsI_all (ns:List Int):∀ y ∈ rowsI ns,y.length = 1:=by
 intro y hy
 rw [show rowsI ns = ns.map _ from rfl] at hy
 obtain ⟨t,_,rfl⟩:=List.mem_map.1 hy
 rfl
theorem rowsI_app (ns ms:List Int):rowsI ns ++ rowsI ms = rowsI (ns ++ ms):=by simp [rowsI]
theorem rowsI_nil:rowsI [] = []:=rfl
theorem rowsI_cons (n:Int) (ns:List Int):rowsI (n :: ns) = [.val (.int .i64 n)] :: rowsI ns:=rfl
theorem rowsB_all (ns:List Bool):∀ y ∈ rowsB ns,y.length = 1:=by
 intro y hy
 rw [show rowsB ns = ns.map _ from rfl] at hy
 obtain ⟨t,_,rfl⟩:=List.mem_map.1 hy
 rfl
theorem rowsS_len (ns:List Str):(rowsS ns).length = ns.length:=by simp [rowsS]
theorem rowsS_row {ns:List Str} {i:Nat} (h:i < ns.length):row (rowsS ns) i = [.str ns[i]]:=by simp [rowsS,row,List.getD,List.getElem?_eq_getElem h]
theorem rowsS_app (ns ms:List Str):rowsS ns ++ rowsS ms = rowsS (ns ++ ms):=by simp [rowsS]
theorem rowsS_nil:rowsS [] = []:=rfl
theorem rowsII_all (ns:List (List Int)):∀ y ∈ rowsII ns,y.length = 1:=by
 intro y hy
 rw [show rowsII ns = ns.map _ from rfl] at hy
 obtain ⟨t,_,rfl⟩:=List.mem_map.1 hy
 rfl
inductive Term where
 | mk (name:Str) (kids:List Term)
def Term.name:Term → Str
 | .mk x _=>x
def Term.kids:Term → List Term
 | .mk _ x=>x
theorem Term.ind {P:Term → Prop} (h:∀ name kids,(∀ k ∈ kids,P k) → P (.mk name kids)):∀ t,P t:=by
 intro t
 refine Term.rec (motive_1:=P) (motive_2:=fun ks=>∀ k ∈ ks,P k) (fun name kids ih=>h name kids ih) (by simp) (fun t ts h1 h2=>?_) t
 intro k hk
 rcases List.mem_cons.1 hk with rfl | hk
 ·exact h1
 ·exact h2 k hk
mutual
def rowT:Term → List D
 | .mk name kids=>[.str name,.lst (rowsT kids)]
def rowsT:List Term → List (List D)
 | []=>[]
 | t :: ts=>rowT t :: rowsT ts
end
def cT (t:Term):List D:=[.str t.name,.lst (rowsT t.kids)]
theorem rowT_eq (t:Term):rowT t = cT t:=by cases t; rfl
theorem rowsT_map:∀ (ts:List Term),rowsT ts = ts.map cT
 | []=>rfl
 | t :: ts=>by simp [rowsT,rowT_eq,rowsT_map ts]
theorem rowsT_len (ns:List Term):(rowsT ns).length = ns.length:=by simp [rowsT_map]
theorem rowsT_row {ns:List Term} {i:Nat} (h:i < ns.length):row (rowsT ns) i = cT ns[i]:=by simp [rowsT_map,row,List.getD,List.getElem?_eq_getElem h]
theorem rowsT_all (ns:List Term):∀ y ∈ rowsT ns,y.length = 2:=by
 intro y hy
 rw [show rowsT ns = ns.map _ from rowsT_map ns] at hy
 obtain ⟨t,_,rfl⟩:=List.mem_map.1 hy
 rfl
theorem rowsT_take (ns:List Term) (i:Nat):(rowsT ns).take i = rowsT (ns.take i):=by simp [rowsT_map]
theorem rowsT_app (ns ms:List Term):rowsT ns ++ rowsT ms = rowsT (ns ++ ms):=by simp [rowsT_map]
theorem rowsT_nil:rowsT [] = []:=rfl
theorem rowsT_cons (n:Term) (ns:List Term):rowsT (n :: ns) = cT n :: rowsT ns:=by simp [rowsT_map]
theorem rowsT_snoc {ns:List Term} {i:Nat} (h:i < ns.length):rowsT (ns.take i) ++ [cT ns[i]] = rowsT (ns.take (i + 1)):=by
 have e:ns.take (i + 1) = ns.take i ++ [ns[i]]:=by rw [List.take_add_one,List.getElem?_eq_getElem h]; rfl
 rw [e,← rowsT_app,rowsT_cons,rowsT_nil]
mutual
def sameT:Term → Term → Bool
 | .mk name1 kids1,.mk name2 kids2=>decide (name1 = name2) && sameTs kids1 kids2
def sameTs:List Term → List Term → Bool
 | [],[]=>true
 | x :: xs,y :: ys=>sameT x y && sameTs xs ys
 | _,_=>false
end
mutual
theorem sameT_iff:∀ (a b:Term),sameT a b = true ↔ a = b
 | .mk name1 kids1,.mk name2 kids2=>by simp [sameT,sameTs_iff]
theorem sameTs_iff:∀ (a b:List Term),sameTs a b = true ↔ a = b
 | [],[]=>by simp [sameTs]
 | [],_ :: _=>by simp [sameTs]
 | _ :: _,[]=>by simp [sameTs]
 | x :: xs,y :: ys=>by simp [sameTs,sameT_iff x y,sameTs_iff xs ys]
end
instance:DecidableEq Term:=fun a b=>decidable_of_iff _ (sameT_iff a b)
structure Sym where
 name:Str
 args:List Int
 sort:Int
 deriving DecidableEq
def cSym (t:Sym):List D:=[.str t.name,.lst (rowsI t.args),.val (.int .i64 t.sort)]
def rowsSym (l:List Sym):List (List D):=l.map cSym
theorem rowsSym_len (ns:List Sym):(rowsSym ns).length = ns.length:=by simp [rowsSym]
theorem rowsSym_row {ns:List Sym} {i:Nat} (h:i < ns.length):row (rowsSym ns) i = cSym ns[i]:=by simp [rowsSym,row,List.getD,List.getElem?_eq_getElem h]
theorem rowsSym_app (ns ms:List Sym):rowsSym ns ++ rowsSym ms = rowsSym (ns ++ ms):=by simp [rowsSym]
structure Sig where
 syms:List Sym
 deriving DecidableEq
def cSig (t:Sig):List D:=[.lst (rowsSym t.syms)]
structure Atom where
 kind:Int
 A:Term
 B:Term
 nums:List Term
 times:List Int
 bound:Int
 strict:Bool
 deriving DecidableEq
def cAtom (t:Atom):List D:=[.val (.int .i64 t.kind),.str t.A.name,.lst (rowsT t.A.kids),.str t.B.name,.lst (rowsT t.B.kids),.lst (rowsT t.nums),.lst (rowsI t.times),.val (.int .i64 t.bound),.val (.bool t.strict)]
def rowsAtom (l:List Atom):List (List D):=l.map cAtom
theorem rowsAtom_all (ns:List Atom):∀ y ∈ rowsAtom ns,y.length = 9:=by
 intro y hy
 rw [show rowsAtom ns = ns.map _ from rfl] at hy
 obtain ⟨t,_,rfl⟩:=List.mem_map.1 hy
 rfl
structure LitD where
 atom:Atom
 no:Bool
 deriving DecidableEq
def cLit (t:LitD):List D:=[.val (.int .i64 t.atom.kind),.str t.atom.A.name,.lst (rowsT t.atom.A.kids),.str t.atom.B.name,.lst (rowsT t.atom.B.kids),.lst (rowsT t.atom.nums),.lst (rowsI t.atom.times),.val (.int .i64 t.atom.bound),.val (.bool t.atom.strict),.val (.bool t.no)]
def rowsLit (l:List LitD):List (List D):=l.map cLit
theorem rowsLit_len (ns:List LitD):(rowsLit ns).length = ns.length:=by simp [rowsLit]
theorem rowsLit_row {ns:List LitD} {i:Nat} (h:i < ns.length):row (rowsLit ns) i = cLit ns[i]:=by simp [rowsLit,row,List.getD,List.getElem?_eq_getElem h]
theorem rowsLit_all (ns:List LitD):∀ y ∈ rowsLit ns,y.length = 10:=by
 intro y hy
 rw [show rowsLit ns = ns.map _ from rfl] at hy
 obtain ⟨t,_,rfl⟩:=List.mem_map.1 hy
 rfl
theorem rowsLit_app (ns ms:List LitD):rowsLit ns ++ rowsLit ms = rowsLit (ns ++ ms):=by simp [rowsLit]
theorem rowsLit_nil:rowsLit [] = []:=rfl
theorem rowsLit_cons (n:LitD) (ns:List LitD):rowsLit (n :: ns) = cLit n :: rowsLit ns:=rfl
inductive Why where
 | mk (rule:Int) (n:Int) (t:Term) (kids:List Why)
def Why.rule:Why → Int
 | .mk x _ _ _=>x
def Why.n:Why → Int
 | .mk _ x _ _=>x
def Why.t:Why → Term
 | .mk _ _ x _=>x
def Why.kids:Why → List Why
 | .mk _ _ _ x=>x
theorem Why.ind {P:Why → Prop} (h:∀ rule n t kids,(∀ k ∈ kids,P k) → P (.mk rule n t kids)):∀ t,P t:=by
 intro t
 refine Why.rec (motive_1:=P) (motive_2:=fun ks=>∀ k ∈ ks,P k) (fun rule n t kids ih=>h rule n t kids ih) (by simp) (fun t ts h1 h2=>?_) t
 intro k hk
 rcases List.mem_cons.1 hk with rfl | hk
 ·exact h1
 ·exact h2 k hk
mutual
def rowWhy:Why → List D
 | .mk rule n t kids=>[.val (.int .i64 rule),.val (.int .i64 n),.str t.name,.lst (rowsT t.kids),.lst (rowsWhy kids)]
def rowsWhy:List Why → List (List D)
 | []=>[]
 | t :: ts=>rowWhy t :: rowsWhy ts
end
def cWhy (t:Why):List D:=[.val (.int .i64 t.rule),.val (.int .i64 t.n),.str t.t.name,.lst (rowsT t.t.kids),.lst (rowsWhy t.kids)]
theorem rowWhy_eq (t:Why):rowWhy t = cWhy t:=by cases t; rfl
theorem rowsWhy_map:∀ (ts:List Why),rowsWhy ts = ts.map cWhy
 | []=>rfl
 | t :: ts=>by simp [rowsWhy,rowWhy_eq,rowsWhy_map ts]
theorem rowsWhy_len (ns:List Why):(rowsWhy ns).length = ns.length:=by simp [rowsWhy_map]
theorem rowsWhy_app (ns ms:List Why):rowsWhy ns ++ rowsWhy ms = rowsWhy (ns ++ ms):=by simp [rowsWhy_map]
theorem rowsWhy_nil:rowsWhy [] = []:=rfl
theorem rowsWhy_cons (n:Why) (ns:List Why):rowsWhy (n :: ns) = cWhy n :: rowsWhy ns:=by simp [rowsWhy_map]
mutual
def sameWhy:Why → Why → Bool
 | .mk rule1 n1 t1 kids1,.mk rule2 n2 t2 kids2=>decide (rule1 = rule2) && decide (n1 = n2) && decide (t1 = t2) && sameWhys kids1 kids2
def sameWhys:List Why → List Why → Bool
 | [],[]=>true
 | x :: xs,y :: ys=>sameWhy x y && sameWhys xs ys
 | _,_=>false
end
mutual
theorem sameWhy_iff:∀ (a b:Why),sameWhy a b = true ↔ a = b
 | .mk rule1 n1 t1 kids1,.mk rule2 n2 t2 kids2=>by simp [sameWhy,sameWhys_iff,and_assoc]
theorem sameWhys_iff:∀ (a b:List Why),sameWhys a b = true ↔ a = b
 | [],[]=>by simp [sameWhys]
 | [],_ :: _=>by simp [sameWhys]
 | _ :: _,[]=>by simp [sameWhys]
 | x :: xs,y :: ys=>by simp [sameWhys,sameWhy_iff x y,sameWhys_iff xs ys]
end
instance:DecidableEq Why:=fun a b=>decidable_of_iff _ (sameWhy_iff a b)
inductive Case where
 | mk (kind:Int) (n:Int) (why:Why) (times:List Int) (A:Term) (B:Term) (kids:List Case)
def Case.kind:Case → Int
 | .mk x _ _ _ _ _ _=>x
def Case.n:Case → Int
 | .mk _ x _ _ _ _ _=>x
def Case.why:Case → Why
 | .mk _ _ x _ _ _ _=>x
def Case.times:Case → List Int
 | .mk _ _ _ x _ _ _=>x
def Case.A:Case → Term
 | .mk _ _ _ _ x _ _=>x
def Case.B:Case → Term
 | .mk _ _ _ _ _ x _=>x
def Case.kids:Case → List Case
 | .mk _ _ _ _ _ _ x=>x
theorem Case.ind {P:Case → Prop} (h:∀ kind n why times A B kids,(∀ k ∈ kids,P k) → P (.mk kind n why times A B kids)):∀ t,P t:=by
 intro t
 refine Case.rec (motive_1:=P) (motive_2:=fun ks=>∀ k ∈ ks,P k) (fun kind n why times A B kids ih=>h kind n why times A B kids ih) (by simp) (fun t ts h1 h2=>?_) t
 intro k hk
 rcases List.mem_cons.1 hk with rfl | hk
 ·exact h1
 ·exact h2 k hk
mutual
def rowCase:Case → List D
 | .mk kind n why times A B kids=>[.val (.int .i64 kind),.val (.int .i64 n),.val (.int .i64 why.rule),.val (.int .i64 why.n),.str why.t.name,.lst (rowsT why.t.kids),.lst (rowsWhy why.kids),.lst (rowsI times),.str A.name,.lst (rowsT A.kids),.str B.name,.lst (rowsT B.kids),.lst (rowsCase kids)]
def rowsCase:List Case → List (List D)
 | []=>[]
 | t :: ts=>rowCase t :: rowsCase ts
end
def cCase (t:Case):List D:=[.val (.int .i64 t.kind),.val (.int .i64 t.n),.val (.int .i64 t.why.rule),.val (.int .i64 t.why.n),.str t.why.t.name,.lst (rowsT t.why.t.kids),.lst (rowsWhy t.why.kids),.lst (rowsI t.times),.str t.A.name,.lst (rowsT t.A.kids),.str t.B.name,.lst (rowsT t.B.kids),.lst (rowsCase t.kids)]
theorem rowCase_eq (t:Case):rowCase t = cCase t:=by cases t; rfl
theorem rowsCase_map:∀ (ts:List Case),rowsCase ts = ts.map cCase
 | []=>rfl
 | t :: ts=>by simp [rowsCase,rowCase_eq,rowsCase_map ts]
theorem rowsCase_len (ns:List Case):(rowsCase ns).length = ns.length:=by simp [rowsCase_map]
theorem rowsCase_app (ns ms:List Case):rowsCase ns ++ rowsCase ms = rowsCase (ns ++ ms):=by simp [rowsCase_map]
theorem rowsCase_nil:rowsCase [] = []:=rfl
theorem rowsCase_cons (n:Case) (ns:List Case):rowsCase (n :: ns) = cCase n :: rowsCase ns:=by simp [rowsCase_map]
mutual
def sameCase:Case → Case → Bool
 | .mk kind1 n1 why1 times1 A1 B1 kids1,.mk kind2 n2 why2 times2 A2 B2 kids2=>decide (kind1 = kind2) && decide (n1 = n2) && decide (why1 = why2) && decide (times1 = times2) && decide (A1 = A2) && decide (B1 = B2) && sameCases kids1 kids2
def sameCases:List Case → List Case → Bool
 | [],[]=>true
 | x :: xs,y :: ys=>sameCase x y && sameCases xs ys
 | _,_=>false
end
mutual
theorem sameCase_iff:∀ (a b:Case),sameCase a b = true ↔ a = b
 | .mk kind1 n1 why1 times1 A1 B1 kids1,.mk kind2 n2 why2 times2 A2 B2 kids2=>by simp [sameCase,sameCases_iff,and_assoc]
theorem sameCases_iff:∀ (a b:List Case),sameCases a b = true ↔ a = b
 | [],[]=>by simp [sameCases]
 | [],_ :: _=>by simp [sameCases]
 | _ :: _,[]=>by simp [sameCases]
 | x :: xs,y :: ys=>by simp [sameCases,sameCase_iff x y,sameCases_iff xs ys]
end
instance:DecidableEq Case:=fun a b=>decidable_of_iff _ (sameCase_iff a b)
inductive Form where
 | mk (kind:Int) (lit:LitD) (kids:List Form)
def Form.kind:Form → Int
 | .mk x _ _=>x
def Form.lit:Form → LitD
 | .mk _ x _=>x
def Form.kids:Form → List Form
 | .mk _ _ x=>x
theorem Form.ind {P:Form → Prop} (h:∀ kind lit kids,(∀ k ∈ kids,P k) → P (.mk kind lit kids)):∀ t,P t:=by
 intro t
 refine Form.rec (motive_1:=P) (motive_2:=fun ks=>∀ k ∈ ks,P k) (fun kind lit kids ih=>h kind lit kids ih) (by simp) (fun t ts h1 h2=>?_) t
 intro k hk
 rcases List.mem_cons.1 hk with rfl | hk
 ·exact h1
 ·exact h2 k hk
mutual
def rowForm:Form → List D
 | .mk kind lit kids=>[.val (.int .i64 kind),.val (.int .i64 lit.atom.kind),.str lit.atom.A.name,.lst (rowsT lit.atom.A.kids),.str lit.atom.B.name,.lst (rowsT lit.atom.B.kids),.lst (rowsT lit.atom.nums),.lst (rowsI lit.atom.times),.val (.int .i64 lit.atom.bound),.val (.bool lit.atom.strict),.val (.bool lit.no),.lst (rowsForm kids)]
def rowsForm:List Form → List (List D)
 | []=>[]
 | t :: ts=>rowForm t :: rowsForm ts
end
def cForm (t:Form):List D:=[.val (.int .i64 t.kind),.val (.int .i64 t.lit.atom.kind),.str t.lit.atom.A.name,.lst (rowsT t.lit.atom.A.kids),.str t.lit.atom.B.name,.lst (rowsT t.lit.atom.B.kids),.lst (rowsT t.lit.atom.nums),.lst (rowsI t.lit.atom.times),.val (.int .i64 t.lit.atom.bound),.val (.bool t.lit.atom.strict),.val (.bool t.lit.no),.lst (rowsForm t.kids)]
theorem rowForm_eq (t:Form):rowForm t = cForm t:=by cases t; rfl
theorem rowsForm_map:∀ (ts:List Form),rowsForm ts = ts.map cForm
 | []=>rfl
 | t :: ts=>by simp [rowsForm,rowForm_eq,rowsForm_map ts]
theorem rowsForm_all (ns:List Form):∀ y ∈ rowsForm ns,y.length = 12:=by
 intro y hy
 rw [show rowsForm ns = ns.map _ from rowsForm_map ns] at hy
 obtain ⟨t,_,rfl⟩:=List.mem_map.1 hy
 rfl
mutual
def sameForm:Form → Form → Bool
 | .mk kind1 lit1 kids1,.mk kind2 lit2 kids2=>decide (kind1 = kind2) && decide (lit1 = lit2) && sameForms kids1 kids2
def sameForms:List Form → List Form → Bool
 | [],[]=>true
 | x :: xs,y :: ys=>sameForm x y && sameForms xs ys
 | _,_=>false
end
mutual
theorem sameForm_iff:∀ (a b:Form),sameForm a b = true ↔ a = b
 | .mk kind1 lit1 kids1,.mk kind2 lit2 kids2=>by simp [sameForm,sameForms_iff,and_assoc]
theorem sameForms_iff:∀ (a b:List Form),sameForms a b = true ↔ a = b
 | [],[]=>by simp [sameForms]
 | [],_ :: _=>by simp [sameForms]
 | _ :: _,[]=>by simp [sameForms]
 | x :: xs,y :: ys=>by simp [sameForms,sameForm_iff x y,sameForms_iff xs ys]
end
instance:DecidableEq Form:=fun a b=>decidable_of_iff _ (sameForm_iff a b)
def rowsFF (ns:List (List Form)):List (List D):=ns.map fun n=>[.lst (rowsForm n)]
structure Rat where
 N:Int
 D:Int
 deriving DecidableEq
def cRat (t:Rat):List D:=[.val (.int .i64 t.N),.val (.int .i64 t.D)]
def rowsRat (l:List Rat):List (List D):=l.map cRat
theorem rowsRat_len (ns:List Rat):(rowsRat ns).length = ns.length:=by simp [rowsRat]
theorem rowsRat_row {ns:List Rat} {i:Nat} (h:i < ns.length):row (rowsRat ns) i = cRat ns[i]:=by simp [rowsRat,row,List.getD,List.getElem?_eq_getElem h]
theorem rowsRat_all (ns:List Rat):∀ y ∈ rowsRat ns,y.length = 2:=by
 intro y hy
 rw [show rowsRat ns = ns.map _ from rfl] at hy
 obtain ⟨t,_,rfl⟩:=List.mem_map.1 hy
 rfl
theorem rowsRat_app (ns ms:List Rat):rowsRat ns ++ rowsRat ms = rowsRat (ns ++ ms):=by simp [rowsRat]
theorem rowsRat_nil:rowsRat [] = []:=rfl
theorem rowsRat_cons (n:Rat) (ns:List Rat):rowsRat (n :: ns) = cRat n :: rowsRat ns:=rfl
structure Row where
 name:Str
 args:List Rat
 val:Rat
 deriving DecidableEq
def cRow (t:Row):List D:=[.str t.name,.lst (rowsRat t.args),.val (.int .i64 t.val.N),.val (.int .i64 t.val.D)]
def rowsRow (l:List Row):List (List D):=l.map cRow
theorem rowsRow_len (ns:List Row):(rowsRow ns).length = ns.length:=by simp [rowsRow]
theorem rowsRow_row {ns:List Row} {i:Nat} (h:i < ns.length):row (rowsRow ns) i = cRow ns[i]:=by simp [rowsRow,row,List.getD,List.getElem?_eq_getElem h]
theorem rowsRow_nil:rowsRow [] = []:=rfl
structure Model where
 rows:List Row
 deriving DecidableEq
def cModel (t:Model):List D:=[.lst (rowsRow t.rows)]
structure Lin where
 coefs:List Int
 bound:Int
 strict:Bool
 deriving DecidableEq
def cLin (t:Lin):List D:=[.lst (rowsI t.coefs),.val (.int .i64 t.bound),.val (.bool t.strict)]
def rowsLin (l:List Lin):List (List D):=l.map cLin
theorem rowsLin_len (ns:List Lin):(rowsLin ns).length = ns.length:=by simp [rowsLin]
theorem rowsLin_row {ns:List Lin} {i:Nat} (h:i < ns.length):row (rowsLin ns) i = cLin ns[i]:=by simp [rowsLin,row,List.getD,List.getElem?_eq_getElem h]
theorem rowsLin_all (ns:List Lin):∀ y ∈ rowsLin ns,y.length = 3:=by
 intro y hy
 rw [show rowsLin ns = ns.map _ from rfl] at hy
 obtain ⟨t,_,rfl⟩:=List.mem_map.1 hy
 rfl
theorem rowsLin_app (ns ms:List Lin):rowsLin ns ++ rowsLin ms = rowsLin (ns ++ ms):=by simp [rowsLin]
theorem rowsLin_nil:rowsLin [] = []:=rfl
theorem rowsLin_cons (n:Lin) (ns:List Lin):rowsLin (n :: ns) = cLin n :: rowsLin ns:=rfl
structure EqD where
 A:Term
 B:Term
 deriving DecidableEq
def cEq (t:EqD):List D:=[.str t.A.name,.lst (rowsT t.A.kids),.str t.B.name,.lst (rowsT t.B.kids)]
def rowsEq (l:List EqD):List (List D):=l.map cEq
theorem rowsEq_len (ns:List EqD):(rowsEq ns).length = ns.length:=by simp [rowsEq]
theorem rowsEq_row {ns:List EqD} {i:Nat} (h:i < ns.length):row (rowsEq ns) i = cEq ns[i]:=by simp [rowsEq,row,List.getD,List.getElem?_eq_getElem h]
theorem rowsEq_all (ns:List EqD):∀ y ∈ rowsEq ns,y.length = 4:=by
 intro y hy
 rw [show rowsEq ns = ns.map _ from rfl] at hy
 obtain ⟨t,_,rfl⟩:=List.mem_map.1 hy
 rfl
theorem rowsEq_app (ns ms:List EqD):rowsEq ns ++ rowsEq ms = rowsEq (ns ++ ms):=by simp [rowsEq]
theorem rowsEq_nil:rowsEq [] = []:=rfl
theorem rowsEq_cons (n:EqD) (ns:List EqD):rowsEq (n :: ns) = cEq n :: rowsEq ns:=rfl
structure Step where
 A:Int
 B:Int
 given:Int
 deriving DecidableEq
def cStep (t:Step):List D:=[.val (.int .i64 t.A),.val (.int .i64 t.B),.val (.int .i64 t.given)]
def rowsStep (l:List Step):List (List D):=l.map cStep
theorem rowsStep_len (ns:List Step):(rowsStep ns).length = ns.length:=by simp [rowsStep]
theorem rowsStep_row {ns:List Step} {i:Nat} (h:i < ns.length):row (rowsStep ns) i = cStep ns[i]:=by simp [rowsStep,row,List.getD,List.getElem?_eq_getElem h]
theorem rowsStep_all (ns:List Step):∀ y ∈ rowsStep ns,y.length = 3:=by
 intro y hy
 rw [show rowsStep ns = ns.map _ from rfl] at hy
 obtain ⟨t,_,rfl⟩:=List.mem_map.1 hy
 rfl
theorem rowsStep_app (ns ms:List Step):rowsStep ns ++ rowsStep ms = rowsStep (ns ++ ms):=by simp [rowsStep]
theorem rowsStep_nil:rowsStep [] = []:=rfl
theorem rowsStep_cons (n:Step) (ns:List Step):rowsStep (n :: ns) = cStep n :: rowsStep ns:=rfl
structure Cnf where
 many:Int
 list:List (List Int)
 deriving DecidableEq
def cCnf (t:Cnf):List D:=[.val (.int .i64 t.many),.lst (rowsII t.list)]
structure Lemma where
 marks:List Int
 case:Case
 deriving DecidableEq
def cLemma (t:Lemma):List D:=[.lst (rowsI t.marks),.val (.int .i64 t.case.kind),.val (.int .i64 t.case.n),.val (.int .i64 t.case.why.rule),.val (.int .i64 t.case.why.n),.str t.case.why.t.name,.lst (rowsT t.case.why.t.kids),.lst (rowsWhy t.case.why.kids),.lst (rowsI t.case.times),.str t.case.A.name,.lst (rowsT t.case.A.kids),.str t.case.B.name,.lst (rowsT t.case.B.kids),.lst (rowsCase t.case.kids)]
def rowsLemma (l:List Lemma):List (List D):=l.map cLemma
structure Paper where
 lemmas:List Lemma
 log:List (List Int)
 deriving DecidableEq
def cPaper (t:Paper):List D:=[.lst (rowsLemma t.lemmas),.lst (rowsII t.log)]
structure Stack where
 sig:Sig
 levels:List (List Form)
 deriving DecidableEq
def cStack (t:Stack):List D:=[.lst (rowsSym t.sig.syms),.lst (rowsFF t.levels)]
def av (cs:List D):PV:=.agg (pvs cs)
attribute [go_sem] rowsI_len rowsS_len rowsT_len rowsSym_len rowsLit_len rowsWhy_len rowsCase_len rowsRat_len rowsRow_len rowsLin_len rowsEq_len rowsStep_len
attribute [go_sem] rowsI_row rowsS_row rowsT_row rowsSym_row rowsLit_row rowsRat_row rowsRow_row rowsLin_row rowsEq_row rowsStep_row
attribute [go_sem] rowsI_nil rowsS_nil rowsT_nil rowsLit_nil rowsWhy_nil rowsCase_nil rowsRat_nil rowsRow_nil rowsLin_nil rowsEq_nil rowsStep_nil
attribute [go_sem] av cT cSym cSig cAtom cLit cWhy cCase cForm cRat cRow cModel cLin cEq cStep cCnf cLemma cPaper cStack Int.toNat_natCast
end Go.Mod
namespace Go.Mod
open Go.Eng
def within (n lo hi:Int):Bool:=decide (lo ≤ n) && decide (n ≤ hi)
theorem withinB_iff {n lo hi:Int}:within n lo hi = true ↔ lo ≤ n ∧ n ≤ hi:=by simp [within]
def idxGo {α:Type} (p:α → Bool):List α → Int → Int
 | [],_=>-1
 | x :: xs,i=>if p x then i else idxGo p xs (i + 1)
def idxOf {α:Type} (p:α → Bool) (xs:List α):Int:=idxGo p xs 0
def ratOk (a:Rat):Bool:=within a.N (-1000000000) 1000000000 && (within a.D 1 1000000000 && decide ((Int.gcd a.N a.D:Int) = 1))
def rat0:Rat:=⟨0,0⟩
def ratOf0 (n d:Int):Rat × Bool:=
 if d = 0 then (rat0,false) else
 let n1:=if d < 0 then -n else n
 let d1:=if d < 0 then -d else d
 let a:Rat:=⟨n1.tdiv (Int.gcd n1 d1),d1.tdiv (Int.gcd n1 d1)⟩
 if ratOk a then (a,true) else (rat0,false)
def ratOf (n d:Int):Rat × Bool:=if within n (-1000000000) 1000000000 && within d (-1000000000) 1000000000 then ratOf0 n d else (rat0,false)
def ratAdd (a b:Rat):Rat × Bool:=if ratOk a && ratOk b then ratOf0 (a.N * b.D + b.N * a.D) (a.D * b.D) else (rat0,false)
def ratMul (a b:Rat):Rat × Bool:=if ratOk a && ratOk b then ratOf0 (a.N * b.N) (a.D * b.D) else (rat0,false)
def ratLess (a b:Rat):Bool:=ratOk a && (ratOk b && decide (a.N * b.D < b.N * a.D))
def ratMid (a b:Rat):Rat × Bool:=if (ratAdd a b).2 then ratMul (ratAdd a b).1 ⟨1,2⟩ else (rat0,false)
def isCoef (n:Int):Bool:=within n (-1000000) 1000000
def linOk (l:Lin):Bool:=l.coefs.all isCoef && (decide (l.coefs.length = 4) && isCoef l.bound)
def lin0:Lin:=⟨[],0,false⟩
def linNot (l:Lin):Lin:=if linOk l then ⟨l.coefs.map fun c=>-c,-l.bound,!l.strict⟩ else lin0
def comb (m n:Int):List Int → List Int → List Int
 | a :: as,b :: bs=>(m * a + n * b) :: comb m n as bs
 | _,_=>[]
def linAdd (a:Lin) (m:Int) (b:Lin) (n:Int):Lin:=⟨comb m n a.coefs b.coefs,m * a.bound + n * b.bound,(decide (0 < m) && a.strict) || (decide (0 < n) && b.strict)⟩
def linSum0 (a:Lin) (m:Int) (b:Lin) (n:Int):Lin × Bool:=if linOk (linAdd a m b n) then (linAdd a m b n,true) else (lin0,false)
def linSum (a:Lin) (m:Int) (b:Lin) (n:Int):Lin × Bool:=if linOk a && linOk b && within m 0 1000000 && within n 0 1000000 then linSum0 a m b n else (lin0,false)
def flat (l:Lin):Bool:=l.coefs.all fun c=>decide (c = 0)
def linBad (l:Lin):Bool:=linOk l && (flat l && (decide (l.bound < 0) || (decide (l.bound = 0) && l.strict)))
def whole (n:Int):Rat:=⟨n,1⟩
def plus (sum:Rat) (c:Int) (val:Rat):Rat × Bool:=if (ratMul (whole c) val).2 then ratAdd sum (ratMul (whole c) val).1 else (rat0,false)
def isSystem (list:List Lin):Bool:=decide (list.length ≤ 20) && list.all linOk
def farGo:List Lin → List Int → Lin → Lin × Bool
 | l :: ls,t :: ts,out=>if (linSum out 1 l t).2 then farGo ls ts (linSum out 1 l t).1 else (lin0,false)
 | _,_,out=>(out,true)
def farSum (list:List Lin) (times:List Int):Lin × Bool:=if isSystem list && decide (times.length = list.length) then farGo list times ⟨[0,0,0,0],0,false⟩ else (lin0,false)
def farOk (list:List Lin) (times:List Int):Bool:=(farSum list times).2 && linBad (farSum list times).1
def letter (c:UInt8):Bool:=decide ((97:Int) ≤ (c.toNat:Int)) && decide ((c.toNat:Int) ≤ 122)
def nameOk (s:Str):Bool:=within s.length 1 2 && s.all letter
def isSort (n:Int):Bool:=decide (n = 0) || decide (n = 1)
def symOk (x:Sym):Bool:=nameOk x.name && (decide (x.args.length ≤ 2) && (isSort x.sort && x.args.all isSort))
def sLess (a b:Str):Bool:=Op.bytesLess a b
def symsGo:Option Str → List Sym → Bool
 | _,[]=>true
 | p,x :: xs=>symOk x && ((match p with | none=>true | some q=>sLess q x.name) && symsGo (some x.name) xs)
def sigOk (s:Sig):Bool:=symsGo none s.syms && decide (s.syms.length ≤ 7)
def symbol (s:Sig) (name:Str):Option Sym:=s.syms.find? fun x=>decide (x.name = name)
def sym0:Sym:=⟨[],[],0⟩
mutual
def termSize:Term → Nat → Nat
 | .mk n ks,deep=>if nameOk n && decide (ks.length ≤ 2) && decide (deep ≤ 4) then 1 + termSizes ks (deep + 1) else 13
def termSizes:List Term → Nat → Nat
 | [],_=>0
 | t :: ts,deep=>termSize t deep + termSizes ts deep
end
def isTerm (t:Term):Bool:=decide (termSize t 1 ≤ 12)
mutual
def tShape:Term → Nat → Bool
 | _,0=>false
 | .mk n ks,d + 1=>nameOk n && (decide (ks.length ≤ 2) && tShapes ks d)
def tShapes:List Term → Nat → Bool
 | [],_=>true
 | t :: ts,d=>tShape t d && tShapes ts d
end
mutual
def many:Term → Nat → Nat
 | _,0=>1
 | .mk _ ks,d + 1=>1 + manys ks d
def manys:List Term → Nat → Nat
 | [],_=>0
 | t :: ts,d=>many t d + manys ts d
end
mutual
def sortOf (s:Sig):Term → Option Int
 | .mk n ks=>match symbol s n with
   | none=>none
   | some x=>if decide (x.args.length = ks.length) && sortsOk s ks x.args then some x.sort else none
def sortsOk (s:Sig):List Term → List Int → Bool
 | k :: ks,a :: as=>decide (sortOf s k = some a) && sortsOk s ks as
 | _,_=>true
end
def termSort (s:Sig) (t:Term):Option Int:=if sigOk s && isTerm t then sortOf s t else none
def commas:List Str → Str
 | []=>[]
 | [t]=>t
 | t :: ts=>t ++ (44 :: commas ts)
mutual
def termText:Term → Str
 | .mk n []=>n
 | .mk n (k :: ks)=>n ++ (40 :: (commas (termText k :: termTexts ks) ++ [41]))
def termTexts:List Term → List Str
 | []=>[]
 | t :: ts=>termText t :: termTexts ts
end
def termIdx (list:List Term) (t:Term):Int:=idxOf (fun u=>decide (t = u)) list
mutual
def withParts (list:List Term):Term → List Term
 | .mk n ks=>let l:=withPartss list ks; if termIdx l (.mk n ks) < 0 then l ++ [.mk n ks] else l
def withPartss (list:List Term):List Term → List Term
 | []=>list
 | t :: ts=>withPartss (withParts list t) ts
end
def partsGo:List Term → List Term → List Term
 | [],out=>out
 | t :: ts,out=>if isTerm t then partsGo ts (withParts out t) else []
def termParts (list:List Term):List Term:=partsGo list []
def sides (eqs:List EqD):List Term:=eqs.flatMap fun e=>[e.A,e.B]
def eqSorted (s:Sig) (e:EqD):Bool:=(termSort s e.A).isSome && decide (termSort s e.A = termSort s e.B)
def eqsOk (s:Sig) (eqs:List EqD):Bool:=sigOk s && decide (eqs.length ≤ 12) && eqs.all (eqSorted s) && decide ((termParts (sides eqs)).length ≤ 24)
def term0:Term:=.mk [] []
def isNone (t:Term):Bool:=decide (t.name = []) && decide (t.kids = [])
def eq0:EqD:=⟨term0,term0⟩
def why0:Why:=.mk 0 0 term0 []
def tellI (eqs:List EqD) (rule n:Int) (t:Term) (kids:List EqD):EqD × Bool:=
 if (rule ≠ 2 ∧ n ≠ 0) ∨ (rule ≠ 1 ∧ rule ≠ 5 ∧ isNone t = false) then (eq0,false) else
 if rule = 1 then (⟨t,t⟩,decide (kids.length = 0) && isTerm t) else
 if rule = 2 then (if 0 < kids.length ∨ within n 0 (eqs.length - 1) = false then (eq0,false) else (eqs.getD n.toNat eq0,true)) else
 if rule = 3 then (if kids.length = 1 then (⟨(kids.getD 0 eq0).B,(kids.getD 0 eq0).A⟩,true) else (eq0,false)) else
 if rule = 4 then (if kids.length = 2 ∧ (kids.getD 0 eq0).B = (kids.getD 1 eq0).A then (⟨(kids.getD 0 eq0).A,(kids.getD 1 eq0).B⟩,true) else (eq0,false)) else
 if rule = 5 then (if kids.length = 0 ∨ nameOk t.name = false ∨ 0 < t.kids.length then (eq0,false) else
  (⟨.mk t.name (kids.map (·.A)),.mk t.name (kids.map (·.B))⟩,isTerm (.mk t.name (kids.map (·.A))) && isTerm (.mk t.name (kids.map (·.B))))) else
 (eq0,false)
mutual
def tellsG (f:Int → Int → Term → List EqD → EqD × Bool):Why → Nat → EqD × Bool
 | _,0=>(eq0,false)
 | .mk r n t ks,d + 1=>match tellssG f ks d with
   | none=>(eq0,false)
   | some kids=>f r n t kids
def tellssG (f:Int → Int → Term → List EqD → EqD × Bool):List Why → Nat → Option (List EqD)
 | [],_=>some []
 | w :: ws,d=>if (tellsG f w d).2 then (tellssG f ws d).map fun es=>(tellsG f w d).1 :: es else none
end
def whyTells (s:Sig) (eqs:List EqD) (w:Why):Option EqD:=
 if eqsOk s eqs && ((tellsG (tellI eqs) w 400).2 && eqsOk s [(tellsG (tellI eqs) w 400).1]) then some (tellsG (tellI eqs) w 400).1 else none
def numsGo:Option Term → List Term → List Int → Bool
 | p,t :: ts,n :: ns=>isTerm t && (within n (-50) 50 && (decide (n ≠ 0) && ((match p with | none=>true | some q=>sLess (termText q) (termText t)) && numsGo (some t) ts ns)))
 | _,_,_=>true
def atomWf (a:Atom):Bool:=
 if a.kind = 1 then isTerm a.A && (isTerm a.B && (decide (a.nums.length = 0) && (decide (a.times.length = 0) && (decide (a.bound = 0) && !a.strict)))) else
 if a.kind = 2 then isNone a.A && (isNone a.B && (within a.nums.length 1 4 && (decide (a.times.length = a.nums.length) && (within a.bound (-1000) 1000 && numsGo none a.nums a.times)))) else false
def isNumber (s:Sig) (t:Term):Bool:=decide (termSort s t = some 1)
def atomOk (s:Sig) (a:Atom):Bool:=sigOk s && (atomWf a && (if a.kind = 1 then eqSorted s ⟨a.A,a.B⟩ else a.nums.all (isNumber s)))
def atomTerms (a:Atom):List Term:=if a.kind = 1 then [a.A,a.B] else a.nums
def termsOf (lits:List LitD):List Term:=termParts (lits.flatMap fun l=>atomTerms l.atom)
def numsOf (s:Sig) (lits:List LitD):List Term:=(termsOf lits).filter (isNumber s)
def bothOk (s:Sig) (lits:List LitD):Bool:=sigOk s && decide (lits.length ≤ 6) && lits.all (fun l=>atomOk s l.atom) && decide ((termsOf lits).length ≤ 24) && decide ((numsOf s lits).length ≤ 4)
def eqsOf (lits:List LitD):List EqD:=lits.filterMap fun l=>if l.atom.kind = 1 ∧ l.no = false then some ⟨l.atom.A,l.atom.B⟩ else none
def addAt:List Int → Int → Int → List Int
 | [],_,_=>[]
 | c :: cs,i,v=>if i = 0 then (c + v) :: cs else c :: addAt cs (i - 1) v
def linGo (nums:List Term):List Term → List Int → List Int → List Int
 | t :: ts,n :: ns,cs=>linGo nums ts ns (addAt cs (termIdx nums t) n)
 | _,_,cs=>cs
def linOf (nums list:List Term) (times:List Int) (bound:Int) (strict:Bool):Lin:=⟨linGo nums list times [0,0,0,0],bound,strict⟩
def litLins (nums:List Term) (l:LitD):List Lin:=
 if l.atom.kind = 2 then [if l.no then linNot (linOf nums l.atom.nums l.atom.times l.atom.bound l.atom.strict) else linOf nums l.atom.nums l.atom.times l.atom.bound l.atom.strict]
 else if l.no = false ∧ 0 ≤ termIdx nums l.atom.A then [linOf nums [l.atom.A,l.atom.B] [1,-1] 0 false,linOf nums [l.atom.A,l.atom.B] [-1,1] 0 false] else []
def linsOf (nums:List Term) (lits:List LitD):List Lin:=lits.flatMap (litLins nums)
def eqAtom (a b:Term):Atom:=⟨1,a,b,[],[],0,false⟩
def eqLit (a b:Term):LitD:=⟨eqAtom a b,false⟩
def lessLit (a b:Term):LitD:=if sLess (termText b) (termText a) then ⟨⟨2,term0,term0,[b,a],[-1,1],0,true⟩,false⟩ else ⟨⟨2,term0,term0,[a,b],[1,-1],0,true⟩,false⟩
def parted (a b:Term):List LitD:=[eqLit a b,lessLit a b,lessLit b a]
def differ (nums:List Term) (a b:Term):Bool:=decide (0 ≤ termIdx nums a) && (decide (0 ≤ termIdx nums b) && decide (termIdx nums a ≠ termIdx nums b))
def bare (c:Case) (n why times terms:Bool) (kids:Nat):Bool:=
 (n || decide (c.n = 0)) && ((why || decide (c.why = why0)) && ((times || decide (c.times.length = 0)) && ((terms || (isNone c.A && isNone c.B)) && decide (c.kids.length = kids))))
theorem term0_name:term0.name = []:=rfl
theorem term0_kids:term0.kids = []:=rfl
theorem sym0_name:sym0.name = []:=rfl
theorem sym0_args:sym0.args = []:=rfl
theorem sym0_sort:sym0.sort = 0:=rfl
theorem lin0_coefs:lin0.coefs = []:=rfl
theorem lin0_bound:lin0.bound = 0:=rfl
theorem lin0_strict:lin0.strict = false:=rfl
theorem rat0_N:rat0.N = 0:=rfl
theorem rat0_D:rat0.D = 0:=rfl
theorem why0_rule:why0.rule = 0:=rfl
theorem why0_n:why0.n = 0:=rfl
theorem why0_t:why0.t = term0:=rfl
theorem why0_kids:why0.kids = []:=rfl
attribute [simp] term0_name term0_kids sym0_name sym0_args sym0_sort lin0_coefs lin0_bound lin0_strict rat0_N rat0_D why0_rule why0_n why0_t why0_kids rowsT_nil rowsI_nil rowsEq_nil rowsWhy_nil
attribute [go_sem] term0_name term0_kids sym0_name sym0_args sym0_sort lin0_coefs lin0_bound lin0_strict rat0_N rat0_D why0_rule why0_n why0_t why0_kids
theorem Term_name_mk (n:Str) (ks:List Term):(Term.mk n ks).name = n:=rfl
theorem Term_kids_mk (n:Str) (ks:List Term):(Term.mk n ks).kids = ks:=rfl
attribute [simp] Term_name_mk Term_kids_mk
attribute [go_sem] Term_name_mk Term_kids_mk
end Go.Mod
namespace Go.Mod
open Go.Eng
def cmpRat (a b:Rat):Int:=if ratLess a b then -1 else if ratLess b a then 1 else 0
def cmpRats:List Rat → List Rat → Int
 | [],[]=>0
 | [],_ :: _=>-1
 | _ :: _,[]=>1
 | a :: as,b :: bs=>if cmpRat a b = 0 then cmpRats as bs else cmpRat a b
def cmpStr (a b:Str):Int:=if sLess a b then -1 else if sLess b a then 1 else 0
def cmpInt (a b:Int):Int:=if a < b then -1 else if b < a then 1 else 0
def cmpRow (a b:Row):Int:=if cmpStr a.name b.name ≠ 0 then cmpStr a.name b.name else if cmpInt a.args.length b.args.length ≠ 0 then cmpInt a.args.length b.args.length else cmpRats a.args b.args
def rowWf (r:Row):Bool:=nameOk r.name && (decide (r.args.length ≤ 2) && (ratOk r.val && r.args.all ratOk))
def rowsGo:Option Row → List Row → Bool
 | _,[]=>true
 | p,r :: rs=>rowWf r && ((match p with | none=>true | some q=>decide (cmpRow q r < 0)) && rowsGo (some r) rs)
def modelWf (m:Model):Bool:=decide (m.rows.length ≤ 40) && rowsGo none m.rows
def suits (a:Rat) (sort:Int):Bool:=decide (sort = 1) || decide (a.D = 1)
def suitsAll:List Rat → List Int → Bool
 | a :: as,n :: ns=>suits a n && suitsAll as ns
 | _,_=>true
def rowSuits (s:Sig) (r:Row):Bool:=
 match symbol s r.name with
 | none=>false
 | some x=>decide (x.args.length = r.args.length) && (suits r.val x.sort && suitsAll r.args x.args)
def modelOk (s:Sig) (m:Model):Bool:=sigOk s && (modelWf m && m.rows.all (rowSuits s))
def lookup (rows:List Row) (name:Str) (args:List Rat):Rat:=
 match rows.find? (fun r=>decide (r.name = name ∧ r.args = args)) with
 | some r=>r.val
 | none=>⟨0,1⟩
mutual
def value (m:Model):Term → Rat
 | .mk n ks=>lookup m.rows n (values m ks)
def values (m:Model):List Term → List Rat
 | []=>[]
 | t :: ts=>value m t :: values m ts
end
def sumGo (m:Model):List Term → List Int → Rat → Option Rat
 | t :: ts,n :: ns,sum=>if (plus sum n (value m t)).2 then sumGo m ts ns (plus sum n (value m t)).1 else none
 | _,_,sum=>some sum
def below (a:Rat) (bound:Int) (strict:Bool):Bool:=if strict then ratLess a (whole bound) else !ratLess (whole bound) a
def atomIs (m:Model) (a:Atom):Option Bool:=if a.kind = 1 then some (decide (value m a.A = value m a.B)) else (sumGo m a.nums a.times (whole 0)).map fun x=>below x a.bound a.strict
def modelLit (s:Sig) (m:Model) (l:LitD):Option Bool:=if modelOk s m && atomOk s l.atom then (atomIs m l.atom).map fun b=>b != l.no else none
mutual
def caseIs (s:Sig) (nums:List Term):Case → List LitD → Nat → Bool
 | .mk k n w ts a b ks,lits,deep=>
   if 14 < deep then false else
   if k = 1 then bare (.mk k n w ts a b ks) true true false false 0 && (within n 0 (lits.length - 1) && (match whyTells s (eqsOf lits) w,lits[n.toNat]? with
    | some e,some l=>l.no && (decide (l.atom.kind = 1) && (decide (e.A = l.atom.A) && decide (e.B = l.atom.B)))
    | _,_=>false)) else
   if k = 2 then bare (.mk k n w ts a b ks) false false true false 0 && farOk (linsOf nums lits) ts else
   if k = 3 then bare (.mk k n w ts a b ks) false true false false 1 && (match whyTells s (eqsOf lits) w with
    | some e=>differ nums e.A e.B && caseIss s nums ks [lits ++ [eqLit e.A e.B]] (deep + 1)
    | none=>false) else
   if k = 4 then bare (.mk k n w ts a b ks) false false false true 3 && (differ nums a b && caseIss s nums ks ((parted a b).map fun l=>lits ++ [l]) (deep + 1)) else
   false
def caseIss (s:Sig) (nums:List Term):List Case → List (List LitD) → Nat → Bool
 | c :: cs,l :: ls,deep=>caseIs s nums c l deep && caseIss s nums cs ls deep
 | _,_,_=>true
end
def caseOk (s:Sig) (lits:List LitD) (c:Case):Bool:=bothOk s lits && caseIs s (numsOf s lits) c lits 1
def kidsOf (kind:Int):Int:=if kind = 1 then 0 else if kind = 2 then 1 else if kind = 3 ∨ kind = 4 ∨ kind = 5 ∨ kind = 6 then 2 else -1
def atom0:Atom:=⟨0,term0,term0,[],[],0,false⟩
def lit0:LitD:=⟨atom0,false⟩
def form0:Form:=.mk 0 lit0 []
def isNoLit (l:LitD):Bool:=!l.no && decide (l.atom = atom0)
def formHead (k:Int) (l:LitD) (ks:List Form):Bool:=decide (kidsOf k = ks.length) && (if k = 1 then atomWf l.atom else isNoLit l)
mutual
def formSize:Form → Nat → Nat
 | .mk k l ks,deep=>if decide (deep ≤ 5) && formHead k l ks then 1 + formSizes ks (deep + 1) else 11
def formSizes:List Form → Nat → Nat
 | [],_=>0
 | t :: ts,deep=>formSize t deep + formSizes ts deep
end
mutual
def formShape:Form → Nat → Bool
 | _,0=>false
 | .mk k l ks,d + 1=>formHead k l ks && formShapes ks d
def formShapes:List Form → Nat → Bool
 | [],_=>true
 | t :: ts,d=>formShape t d && formShapes ts d
end
mutual
def formMany:Form → Nat → Nat
 | _,0=>1
 | .mk _ _ ks,d + 1=>1 + formManys ks d
def formManys:List Form → Nat → Nat
 | [],_=>0
 | t :: ts,d=>formMany t d + formManys ts d
end
def atomIdx (list:List Atom) (a:Atom):Int:=idxOf (fun b=>decide (a = b)) list
mutual
def withAtoms (list:List Atom):Form → List Atom
 | .mk k l ks=>if k = 1 then (if atomIdx list l.atom < 0 then list ++ [l.atom] else list) else withAtomss list ks
def withAtomss (list:List Atom):List Form → List Atom
 | []=>list
 | t :: ts=>withAtomss (withAtoms list t) ts
end
def isForm (f:Form):Bool:=decide (formSize f 1 ≤ 10) && decide ((withAtoms [] f).length ≤ 6)
def plain (list:List Atom):List LitD:=list.map fun a=>⟨a,false⟩
def formOk (s:Sig) (f:Form):Bool:=isForm f && bothOk s (plain (withAtoms [] f))
mutual
def holds (p:Atom → Bool):Form → Bool
 | .mk k l ks=>holds1 k l (holdss p ks) p
def holdss (p:Atom → Bool):List Form → List Bool
 | []=>[]
 | t :: ts=>holds p t :: holdss p ts
def holds1 (k:Int) (l:LitD) (is:List Bool) (p:Atom → Bool):Bool:=
 if k = 1 then p l.atom != l.no else
 if k = 2 then !(is.getD 0 false) else
 if k = 3 then is.getD 0 false && is.getD 1 false else
 if k = 4 then is.getD 0 false || is.getD 1 false else
 if k = 5 then !(is.getD 0 false) || is.getD 1 false else
 is.getD 0 false == is.getD 1 false
end
def formIs (f:Form) (vals:List Bool):Option Bool:=
 if isForm f && decide ((withAtoms [] f).length = vals.length) then some (holds (fun a=>vals.getD (atomIdx (withAtoms [] f) a).toNat false) f) else none
def litsGo (s:Sig) (m:Model):List Atom → Option (List Bool)
 | []=>some []
 | a :: as=>match modelLit s m ⟨a,false⟩ with
   | none=>none
   | some b=>match litsGo s m as with
     | none=>none
     | some bs=>some (b :: bs)
def formModel (s:Sig) (m:Model) (f:Form):Option Bool:=
 if formOk s f then (match litsGo s m (withAtoms [] f) with | none=>none | some vals=>formIs f vals) else none
def formsGo:List Form → List Atom → List Atom
 | [],out=>out
 | f :: fs,out=>formsGo fs (withAtoms out f)
def formsAtoms (list:List Form):Option (List Atom):=
 if decide (list.length ≤ 5) && (list.all isForm && decide ((formsGo list []).length ≤ 6)) then some (formsGo list []) else none
def formsOk (s:Sig) (list:List Form):Bool:=match formsAtoms list with | none=>false | some atoms=>sigOk s && bothOk s (plain atoms)
def isMark (l many:Int):Bool:=decide (l ≠ 0) && within l (-many) many
def selGo:List Int → List Int → Int → Bool
 | _,[],_=>true
 | before,m :: ms,many=>isMark m many && (!(before.contains m) && (!(before.contains (-m)) && selGo (before ++ [m]) ms many))
def isSelection (marks:List Int) (many:Nat):Bool:=selGo [] marks many
def standFor (marks:List Int) (atoms:List Atom):List LitD:=marks.map fun m=>⟨atoms.getD (m.natAbs - 1) atom0,decide (m < 0)⟩
def lemmaOk (s:Sig) (list:List Form) (l:Lemma):Bool:=
 formsOk s list && (decide (0 < l.marks.length) && (isSelection l.marks ((formsAtoms list).getD []).length && caseOk s (standFor l.marks ((formsAtoms list).getD [])) l.case))
def solveAll (s:Sig) (m:Model) (list:List Form):Bool:=formsOk s list && (modelOk s m && list.all fun f=>decide (formModel s m f = some true))
end Go.Mod
namespace Go.Proofs.YtpidddienjoleaaGreat
open Go.Eng Go.Mod
set_option maxRecDepth 100000
theorem maxI_abs {n:Int}:(if n < -n then -n else n) = (n.natAbs:Int):=by split <;> omega
end Go.Proofs.YtpidddienjoleaaGreat
namespace Go.Mod
open Go.Eng
mutual
theorem size_tShape:∀ (t:Term) (d:Nat),d ≤ 4 → (tShape t d = true → termSize t (5 - d) = many t d) ∧ (tShape t d = false → 13 ≤ termSize t (5 - d))
 | .mk n ks,0,_=>by simp [tShape,termSize]
 | .mk n ks,d + 1,hd=>by
   obtain ⟨h1,h2⟩:=sizes_tShape ks d (by omega)
   have e:5 - (d + 1) + 1 = 5 - d:=by omega
   have e2:5 - (d + 1) ≤ 4:=by omega
   simp only [tShape,termSize,many,e,e2,decide_true,Bool.and_true]
   cases hn:nameOk n
   ·simp
   ·rcases Classical.em (ks.length ≤ 2) with hk | hk
    ·simp only [hk,decide_true,Bool.and_self,Bool.true_and,if_true]
     exact ⟨fun h=>by rw [h1 h],fun h=>by have:=h2 h; omega⟩
    ·simp [hk]
theorem sizes_tShape:∀ (ts:List Term) (d:Nat),d ≤ 4 → (tShapes ts d = true → termSizes ts (5 - d) = manys ts d) ∧ (tShapes ts d = false → 13 ≤ termSizes ts (5 - d))
 | [],_,_=>by simp [tShapes,termSizes,manys]
 | t :: ts,d,hd=>by
   obtain ⟨h1,h2⟩:=size_tShape t d hd
   obtain ⟨h3,h4⟩:=sizes_tShape ts d hd
   simp only [tShapes,termSizes,manys]
   cases ht:tShape t d
   ·have:=h2 ht
    exact ⟨fun h=>by simp at h,fun _=>by omega⟩
   ·cases hts:tShapes ts d
    ·have:=h4 hts
     exact ⟨fun h=>by simp at h,fun _=>by omega⟩
    ·exact ⟨fun _=>by rw [h1 ht,h3 hts],fun h=>by simp at h⟩
end
def right (t:Term):Bool:=tShape t 4 && decide (many t 4 ≤ 12)
theorem right_eq (t:Term):right t = isTerm t:=by
 have h:=size_tShape t 4 (by omega)
 simp only [show 5 - 4 = 1 from rfl] at h
 obtain ⟨h1,h2⟩:=h
 unfold right isTerm
 cases h:tShape t 4
 ·have:=h2 h
  simp only [Bool.false_and]
  symm
  simp only [decide_eq_false_iff_not]
  omega
 ·rw [← h1 h]
  simp
theorem isTerm_tShape {t:Term} (h:isTerm t = true):tShape t 4 = true:=by
 rw [← right_eq] at h
 simp only [right,Bool.and_eq_true] at h
 exact h.1
mutual
theorem tShape_up:∀ (t:Term) (d:Nat),tShape t d = true → tShape t (d + 1) = true
 | .mk n ks,0,h=>by simp [tShape] at h
 | .mk n ks,d + 1,h=>by
   simp only [tShape,Bool.and_eq_true] at h ⊢
   exact ⟨h.1,h.2.1,tShapes_up ks d h.2.2⟩
theorem tShapes_up:∀ (ts:List Term) (d:Nat),tShapes ts d = true → tShapes ts (d + 1) = true
 | [],_,_=>by simp [tShapes]
 | t :: ts,d,h=>by
   simp only [tShapes,Bool.and_eq_true] at h ⊢
   exact ⟨tShape_up t d h.1,tShapes_up ts d h.2⟩
end
theorem tShapes_mem:∀ {ts:List Term} {d:Nat},tShapes ts d = true → ∀ t ∈ ts,tShape t d = true
 | [],_,_,t,ht=>by simp at ht
 | a :: ts,d,h,t,ht=>by
   simp only [tShapes,Bool.and_eq_true] at h
   rcases List.mem_cons.1 ht with rfl | ht
   ·exact h.1
   ·exact tShapes_mem h.2 t ht
theorem tShape_kids {t:Term} {d:Nat} (h:tShape t (d + 1) = true):nameOk t.name = true ∧ t.kids.length ≤ 2 ∧ tShapes t.kids d = true:=by
 cases t with
 | mk n ks=>
   simp only [tShape,Bool.and_eq_true,decide_eq_true_eq] at h
   exact ⟨h.1,h.2.1,h.2.2⟩
mutual
theorem many_le:∀ (t:Term) (d:Nat),tShape t d = true → many t d + 1 ≤ 2 ^ d
 | .mk n ks,0,h=>by simp [tShape] at h
 | .mk n ks,d + 1,h=>by
   simp only [tShape,Bool.and_eq_true,decide_eq_true_eq] at h
   have:=manys_le ks d h.2.2
   simp only [many]
   have h3:ks.length * (2 ^ d - 1) ≤ 2 * (2 ^ d - 1):=Nat.mul_le_mul_right _ h.2.1
   have h4:1 ≤ 2 ^ d:=Nat.one_le_two_pow
   rw [Nat.pow_succ]
   omega
theorem manys_le:∀ (ts:List Term) (d:Nat),tShapes ts d = true → manys ts d ≤ ts.length * (2 ^ d - 1)
 | [],_,_=>by simp [manys]
 | t :: ts,d,h=>by
   simp only [tShapes,Bool.and_eq_true] at h
   have h1:=many_le t d h.1
   have h2:=manys_le ts d h.2
   simp only [manys,List.length_cons,Nat.add_mul,Nat.one_mul]
   omega
end
mutual
theorem termSize_le:∀ (t:Term) (deep:Nat),1 ≤ deep → deep ≤ 5 → termSize t deep + 14 ≤ 27 * 2 ^ (5 - deep)
 | .mk n ks,deep,h1,h5=>by
   simp only [termSize]
   split
   ·rename_i h
    simp only [Bool.and_eq_true,decide_eq_true_eq] at h
    have:=termSizes_le ks (deep + 1) (by omega) (by omega)
    have h3:ks.length * (27 * 2 ^ (5 - (deep + 1)) - 14) ≤ 2 * (27 * 2 ^ (5 - (deep + 1)) - 14):=Nat.mul_le_mul_right _ h.1.2
    have e:5 - deep = (5 - (deep + 1)) + 1:=by omega
    have h4:1 ≤ 2 ^ (5 - (deep + 1)):=Nat.one_le_two_pow
    rw [e,Nat.pow_succ]
    omega
   ·have h4:1 ≤ 2 ^ (5 - deep):=Nat.one_le_two_pow
    omega
theorem termSizes_le:∀ (ts:List Term) (deep:Nat),1 ≤ deep → deep ≤ 5 → termSizes ts deep ≤ ts.length * (27 * 2 ^ (5 - deep) - 14)
 | [],_,_,_=>by simp [termSizes]
 | t :: ts,deep,h1,h5=>by
   have h2:=termSize_le t deep h1 h5
   have h3:=termSizes_le ts deep h1 h5
   simp only [termSizes,List.length_cons,Nat.add_mul,Nat.one_mul]
   omega
end
theorem withPartss_fold:∀ (ts l:List Term),withPartss l ts = ts.foldl withParts l
 | [],_=>rfl
 | t :: ts,l=>by simp only [withPartss,List.foldl_cons,withPartss_fold ts]
theorem withPartss_snoc {ts:List Term} {i:Nat} (h:i < ts.length) (l:List Term):withPartss l (ts.take (i + 1)) = withParts (withPartss l (ts.take i)) ts[i]:=by
 have e:ts.take (i + 1) = ts.take i ++ [ts[i]]:=by rw [List.take_add_one,List.getElem?_eq_getElem h]; rfl
 rw [e,withPartss_fold,withPartss_fold,List.foldl_append]
 rfl
theorem withParts_eq (l:List Term) (t:Term):withParts l t = if termIdx (withPartss l t.kids) t < 0 then withPartss l t.kids ++ [t] else withPartss l t.kids:=by
 cases t; rfl
mutual
theorem withParts_len:∀ (t:Term) (d:Nat) (l:List Term),tShape t d = true → (withParts l t).length ≤ l.length + many t d
 | .mk n ks,0,l,h=>by simp [tShape] at h
 | .mk n ks,d + 1,l,h=>by
   simp only [tShape,Bool.and_eq_true] at h
   have:=withPartss_len ks d l h.2.2
   simp only [withParts,many]
   split
   ·simp only [List.length_append,List.length_cons,List.length_nil]
    omega
   ·omega
theorem withPartss_len:∀ (ts:List Term) (d:Nat) (l:List Term),tShapes ts d = true → (withPartss l ts).length ≤ l.length + manys ts d
 | [],_,_,_=>by simp [withPartss]
 | t :: ts,d,l,h=>by
   simp only [tShapes,Bool.and_eq_true] at h
   have h1:=withParts_len t d l h.1
   have h2:=withPartss_len ts d (withParts l t) h.2
   simp only [withPartss,manys]
   omega
end
theorem tShapes_take:∀ {ts:List Term} {d:Nat},tShapes ts d = true → ∀ i,tShapes (ts.take i) d = true
 | [],_,_,i=>by simp [tShapes]
 | t :: ts,d,h,0=>by simp [tShapes]
 | t :: ts,d,h,i + 1=>by
   simp only [tShapes,Bool.and_eq_true,List.take_succ_cons] at h ⊢
   exact ⟨h.1,tShapes_take h.2 i⟩
theorem withParts_le {t:Term} {d:Nat} {l:List Term} (h:tShape t d = true) (hd:d ≤ 4):(withParts l t).length ≤ l.length + 15:=by
 have h1:=withParts_len t d l h
 have h2:=many_le t d h
 have h3:2 ^ d ≤ 2 ^ 4:=Nat.pow_le_pow_right (by omega) hd
 omega
theorem withPartss_le {t:Term} {d:Nat} {l:List Term} (h:tShape t (d + 1) = true) (hd:d ≤ 3) (i:Nat):(withPartss l (t.kids.take i)).length ≤ l.length + 14:=by
 obtain ⟨_,h1,h2⟩:=tShape_kids h
 have h3:=withPartss_len (t.kids.take i) d l (tShapes_take h2 i)
 have h4:=manys_le (t.kids.take i) d (tShapes_take h2 i)
 have h5:2 ^ d ≤ 2 ^ 3:=Nat.pow_le_pow_right (by omega) hd
 have h6:(t.kids.take i).length ≤ 2:=by simp; omega
 have h7:(t.kids.take i).length * (2 ^ d - 1) ≤ 2 * (2 ^ d - 1):=Nat.mul_le_mul_right _ h6
 omega
end Go.Mod
namespace Go.Mod
open Go.Eng
theorem isSort_iff {n:Int}:isSort n = true ↔ n = 0 ∨ n = 1:=by simp [isSort]
theorem symsGo_mem:∀ {l:List Sym} {p:Option Str},symsGo p l = true → ∀ x ∈ l,symOk x = true
 | [],_,_,x,hx=>by simp at hx
 | a :: l,p,h,x,hx=>by
   simp only [symsGo,Bool.and_eq_true] at h
   rcases List.mem_cons.1 hx with rfl | hx
   ·exact h.1
   ·exact symsGo_mem h.2.2 x hx
theorem symbol_ok {s:Sig} {n:Str} {x:Sym} (hs:sigOk s = true) (h:symbol s n = some x):symOk x = true:=by
 simp only [sigOk,Bool.and_eq_true] at hs
 exact symsGo_mem hs.1 x (List.mem_of_find?_eq_some h)
theorem symOk_sort {x:Sym} (h:symOk x = true):isSort x.sort = true ∧ ∀ n ∈ x.args,isSort n = true:=by
 simp only [symOk,Bool.and_eq_true,List.all_eq_true] at h
 exact ⟨h.2.2.1,h.2.2.2⟩
theorem sortOf_sort {s:Sig} {t:Term} {n:Int} (hs:sigOk s = true) (h:sortOf s t = some n):isSort n = true:=by
 cases t with
 | mk nm ks=>
   simp only [sortOf] at h
   cases hx:symbol s nm with
   | none=>rw [hx] at h; cases h
   | some x=>
     rw [hx] at h
     simp only at h
     split at h
     ·cases h
      exact (symOk_sort (symbol_ok hs hx)).1
     ·cases h
theorem letter_40:letter 40 = false:=by decide
theorem letter_41:letter 41 = false:=by decide
theorem letter_44:letter 44 = false:=by decide
def stopN (r:Str):Prop:=∀ c x,r = c :: x → letter c = false
def stopT (r:Str):Prop:=∀ c x,r = c :: x → letter c = false ∧ c ≠ 40
theorem stopN_cons {c:UInt8} {x:Str} (h:letter c = false):stopN (c :: x):=by
 intro c' x' e
 cases e
 exact h
theorem stopT_cons {c:UInt8} {x:Str} (h:letter c = false) (h2:c ≠ 40):stopT (c :: x):=by
 intro c' x' e
 cases e
 exact ⟨h,h2⟩
theorem stopT.n {r:Str} (h:stopT r):stopN r:=fun c x e=>(h c x e).1
theorem names_split:∀ {a b r r':Str},a.all letter = true → b.all letter = true → stopN r → stopN r' → a ++ r = b ++ r' → a = b ∧ r = r'
 | [],[],r,r',_,_,_,_,h=>⟨rfl,by simpa using h⟩
 | [],c :: b,r,r',_,hb,hr,_,h=>by
   simp only [List.all_cons,Bool.and_eq_true] at hb
   have:=hr c (b ++ r') (by simpa using h)
   rw [this] at hb
   simp at hb
 | c :: a,[],r,r',ha,_,_,hr',h=>by
   simp only [List.all_cons,Bool.and_eq_true] at ha
   have:=hr' c (a ++ r) (by simpa using h.symm)
   rw [this] at ha
   simp at ha
 | c :: a,d :: b,r,r',ha,hb,hr,hr',h=>by
   simp only [List.all_cons,Bool.and_eq_true] at ha hb
   simp only [List.cons_append,List.cons.injEq] at h
   obtain ⟨h1,h2⟩:=names_split ha.2 hb.2 hr hr' h.2
   exact ⟨by rw [h.1,h1],h2⟩
theorem nameOk_all {n:Str} (h:nameOk n = true):n.all letter = true:=by
 simp only [nameOk,Bool.and_eq_true] at h
 exact h.2
mutual
theorem text_inj:∀ (t u:Term) (d:Nat) (r r':Str),tShape t d = true → tShape u d = true → stopT r → stopT r' → termText t ++ r = termText u ++ r' → t = u ∧ r = r'
 | t,u,0,r,r',ht,_,_,_,_=>by simp [tShape] at ht
 | .mk n ks,.mk m js,d + 1,r,r',ht,hu,hr,hr',h=>by
   simp only [tShape,Bool.and_eq_true] at ht hu
   have hn:=nameOk_all ht.1
   have hm:=nameOk_all hu.1
   match ks,js,ht,hu,h with
   | [],[],ht,hu,h=>
     simp only [termText] at h
     obtain ⟨h1,h2⟩:=names_split hn hm hr.n hr'.n h
     exact ⟨by rw [h1],h2⟩
   | [],k :: js,ht,hu,h=>
     simp only [termText,List.append_assoc,List.cons_append] at h
     obtain ⟨h1,h2⟩:=names_split hn hm hr.n (stopN_cons letter_40) h
     exact absurd rfl ((hr _ _ h2).2)
   | k :: ks,[],ht,hu,h=>
     simp only [termText,List.append_assoc,List.cons_append] at h
     obtain ⟨h1,h2⟩:=names_split hn hm (stopN_cons letter_40) hr'.n h
     exact absurd rfl ((hr' _ _ h2.symm).2)
   | k :: ks,j :: js,ht,hu,h=>
     simp only [termText,List.append_assoc,List.cons_append] at h
     obtain ⟨h1,h2⟩:=names_split hn hm (stopN_cons letter_40) (stopN_cons letter_40) h
     simp only [List.cons.injEq,true_and] at h2
     obtain ⟨h3,h4⟩:=texts_inj (k :: ks) (j :: js) d r r' ht.2.2 hu.2.2 (by simp) (by simp) (by simpa [termTexts] using h2)
     exact ⟨by rw [h1,h3],h4⟩
theorem texts_inj:∀ (ts us:List Term) (d:Nat) (r r':Str),tShapes ts d = true → tShapes us d = true → ts ≠ [] → us ≠ [] → commas (termTexts ts) ++ 41 :: r = commas (termTexts us) ++ 41 :: r' → ts = us ∧ r = r'
 | [],_,_,_,_,_,_,h,_,_=>absurd rfl h
 | _ :: _,[],_,_,_,_,_,_,h,_=>absurd rfl h
 | [t],[u],d,r,r',ht,hu,_,_,h=>by
   simp only [tShapes,Bool.and_eq_true] at ht hu
   simp only [termTexts,commas] at h
   obtain ⟨h1,h2⟩:=text_inj t u d _ _ ht.1 hu.1 (stopT_cons letter_41 (by decide)) (stopT_cons letter_41 (by decide)) h
   simp only [List.cons.injEq,true_and] at h2
   exact ⟨by rw [h1],h2⟩
 | [t],u :: v :: us,d,r,r',ht,hu,_,_,h=>by
   simp only [tShapes,Bool.and_eq_true] at ht hu
   simp only [termTexts,commas,List.append_assoc,List.cons_append] at h
   obtain ⟨h1,h2⟩:=text_inj t u d _ _ ht.1 hu.1 (stopT_cons letter_41 (by decide)) (stopT_cons letter_44 (by decide)) h
   simp at h2
 | t :: w :: ts,[u],d,r,r',ht,hu,_,_,h=>by
   simp only [tShapes,Bool.and_eq_true] at ht hu
   simp only [termTexts,commas,List.append_assoc,List.cons_append] at h
   obtain ⟨h1,h2⟩:=text_inj t u d _ _ ht.1 hu.1 (stopT_cons letter_44 (by decide)) (stopT_cons letter_41 (by decide)) h
   simp at h2
 | t :: w :: ts,u :: v :: us,d,r,r',ht,hu,_,_,h=>by
   simp only [tShapes,Bool.and_eq_true] at ht hu
   simp only [termTexts,commas,List.append_assoc,List.cons_append] at h
   obtain ⟨h1,h2⟩:=text_inj t u d _ _ ht.1 hu.1 (stopT_cons letter_44 (by decide)) (stopT_cons letter_44 (by decide)) h
   simp only [List.cons.injEq,true_and] at h2
   obtain ⟨h3,h4⟩:=texts_inj (w :: ts) (v :: us) d r r' (by simp only [tShapes,Bool.and_eq_true]; exact ht.2) (by simp only [tShapes,Bool.and_eq_true]; exact hu.2) (by simp) (by simp) (by simpa [termTexts] using h2)
   exact ⟨by rw [h1,h3],h4⟩
end
theorem termText_inj {t u:Term} (ht:isTerm t = true) (hu:isTerm u = true) (h:termText t = termText u):t = u:=
 (text_inj t u 4 [] [] (isTerm_tShape ht) (isTerm_tShape hu) (fun _ _ e=>by cases e) (fun _ _ e=>by cases e) (by rw [h])).1
mutual
theorem text_len:∀ (t:Term) (d:Nat),tShape t d = true → (termText t).length + 6 ≤ 8 * 2 ^ d
 | t,0,h=>by simp [tShape] at h
 | .mk n [],d + 1,h=>by
   simp only [tShape,Bool.and_eq_true] at h
   have h1:n.length ≤ 2:=by
    have:=h.1
    simp only [nameOk,Bool.and_eq_true] at this
    have:=withinB_iff.1 this.1
    omega
   have h4:1 ≤ 2 ^ d:=Nat.one_le_two_pow
   simp only [termText,Nat.pow_succ]
   omega
 | .mk n (k :: ks),d + 1,h=>by
   simp only [tShape,Bool.and_eq_true,decide_eq_true_eq] at h
   have h1:n.length ≤ 2:=by
    have:=h.1
    simp only [nameOk,Bool.and_eq_true] at this
    have:=withinB_iff.1 this.1
    omega
   have h2:=texts_len (k :: ks) d h.2.2
   have h4:1 ≤ 2 ^ d:=Nat.one_le_two_pow
   simp only [termTexts] at h2
   simp only [termText,List.length_append,List.length_cons,List.length_nil,Nat.pow_succ]
   have h3:(k :: ks).length * (8 * 2 ^ d - 5) ≤ 2 * (8 * 2 ^ d - 5):=Nat.mul_le_mul_right _ h.2.1
   omega
theorem texts_len:∀ (ts:List Term) (d:Nat),tShapes ts d = true → (commas (termTexts ts)).length ≤ ts.length * (8 * 2 ^ d - 5)
 | [],_,_=>by simp [termTexts,commas]
 | [t],d,h=>by
   simp only [tShapes,Bool.and_eq_true] at h
   have:=text_len t d h.1
   simp only [termTexts,commas,List.length_cons,List.length_nil]
   omega
 | t :: u :: ts,d,h=>by
   simp only [tShapes,Bool.and_eq_true] at h
   have h1:=text_len t d h.1
   have h2:=texts_len (u :: ts) d (by simp only [tShapes,Bool.and_eq_true]; exact h.2)
   simp only [termTexts] at h2
   simp only [termTexts,commas,List.length_append,List.length_cons] at h2 ⊢
   have e:(ts.length + 1 + 1) * (8 * 2 ^ d - 5) = (ts.length + 1) * (8 * 2 ^ d - 5) + (8 * 2 ^ d - 5):=by rw [Nat.add_mul (ts.length + 1) 1]; omega
   rw [e]
   omega
end
theorem termText_len {t:Term} {d:Nat} (h:tShape t d = true) (hd:d ≤ 4):(termText t).length ≤ 122:=by
 have h1:=text_len t d h
 have h2:2 ^ d ≤ 2 ^ 4:=Nat.pow_le_pow_right (by omega) hd
 omega
theorem idxGo_at {α:Type} {p:α → Bool}:∀ {xs:List α} {i:Int},0 ≤ i → (0 ≤ idxGo p xs i ↔ ∃ x ∈ xs,p x = true)
 | [],i,h=>by simp [idxGo]
 | x :: xs,i,h=>by
   simp only [idxGo,List.mem_cons,exists_eq_or_imp]
   split
   ·rename_i hx
    simp [hx,h]
   ·rename_i hx
    rw [idxGo_at (by omega)]
    simp [hx]
theorem idxGo_shift {α:Type} {p:α → Bool}:∀ {xs:List α} {i:Int},0 ≤ i → idxGo p xs i = if idxGo p xs 0 < 0 then -1 else idxGo p xs 0 + i
 | [],i,h=>by simp [idxGo]
 | x :: xs,i,h=>by
   simp only [idxGo]
   split
   ·simp
   ·rw [idxGo_shift (i:=i + 1) (by omega),idxGo_shift (i:=0 + 1) (by omega)]
    rcases Classical.em (idxGo p xs 0 < 0) with hc | hc
    ·simp [hc]
    ·simp only [hc,if_false]
     rw [if_neg (by omega)]
     omega
theorem idxGo_le {α:Type} {p:α → Bool}:∀ {xs:List α} {i:Int},idxGo p xs i < i + xs.length ∨ idxGo p xs i = -1
 | [],i=>by simp [idxGo]
 | x :: xs,i=>by
   simp only [idxGo,List.length_cons]
   split
   ·left; omega
   ·rcases idxGo_le (p:=p) (xs:=xs) (i:=i + 1) with h | h
    ·left; omega
    ·right; exact h
theorem termIdx_nn {l:List Term} {t:Term}:0 ≤ termIdx l t ↔ t ∈ l:=by
 unfold termIdx idxOf
 rw [idxGo_at (by omega)]
 simp
theorem termIdx_lt {l:List Term} {t:Term} (h:t ∈ l):(termIdx l t).toNat < l.length:=by
 have h1:=termIdx_nn.2 h
 rcases idxGo_le (p:=fun u=>decide (t = u)) (xs:=l) (i:=0) with h2 | h2
 ·unfold termIdx idxOf at h1 ⊢
  omega
 ·unfold termIdx idxOf at h1
  omega
theorem termIdx_get {t:Term}:∀ {l:List Term},t ∈ l → l[(termIdx l t).toNat]? = some t
 | [],h=>by simp at h
 | x :: xs,h=>by
   unfold termIdx idxOf
   simp only [idxGo]
   rcases Classical.em (t = x) with hx | hx
   ·simp [hx]
   ·have hm:t ∈ xs:=by simpa [hx] using h
    have h0:=termIdx_nn.2 hm
    have ih:=termIdx_get hm
    unfold termIdx idxOf at ih h0
    simp only [hx,decide_false,Bool.false_eq_true,if_false]
    rw [idxGo_shift (by omega),if_neg (by omega)]
    have e:(idxGo (fun u=>decide (t = u)) xs 0 + (0 + 1)).toNat = (idxGo (fun u=>decide (t = u)) xs 0).toNat + 1:=by omega
    rw [e,List.getElem?_cons_succ,ih]
theorem addAt_set:∀ {cs:List Int} {i:Int} (v:Int),0 ≤ i → addAt cs i v = cs.set i.toNat (cs.getD i.toNat 0 + v)
 | [],i,v,h=>by simp [addAt]
 | c :: cs,i,v,h=>by
   simp only [addAt]
   rcases Classical.em (i = 0) with h0 | h0
   ·subst h0; simp
   ·rw [if_neg h0,addAt_set v (by omega)]
    have e:i.toNat = (i - 1).toNat + 1:=by omega
    rw [e]
    simp
theorem addAt_len:∀ {cs:List Int} {i v:Int},(addAt cs i v).length = cs.length
 | [],i,v=>rfl
 | c :: cs,i,v=>by
   simp only [addAt]
   split
   ·simp
   ·simp [addAt_len (cs:=cs)]
def setGo (nums:List Term):List Term → List Int → List Int → List Int
 | t :: ts,n :: ns,cs=>setGo nums ts ns (cs.set (termIdx nums t).toNat n)
 | _,_,cs=>cs
theorem getD_set_ne {cs:List Int} {i k:Nat} {v:Int} (h:i ≠ k):(cs.set i v).getD k 0 = cs.getD k 0:=by
 simp [List.getD,List.getElem?_set_ne h]
end Go.Mod
namespace Go.Mod
open Go.Eng
theorem isCoef_iff {n:Int}:isCoef n = true ↔ -1000000 ≤ n ∧ n ≤ 1000000:=withinB_iff
theorem linOk_iff {l:Lin}:linOk l = true ↔ l.coefs.length = 4 ∧ (∀ c ∈ l.coefs,-1000000 ≤ c ∧ c ≤ 1000000) ∧ (-1000000 ≤ l.bound ∧ l.bound ≤ 1000000):=by
 simp only [linOk,Bool.and_eq_true,List.all_eq_true,decide_eq_true_eq,isCoef_iff]
 constructor
 ·rintro ⟨h1,h2,h3⟩
  exact ⟨h2,h1,h3⟩
 ·rintro ⟨h1,h2,h3⟩
  exact ⟨h2,h1,h3⟩
theorem mul_bound {m b:Int} (h0:0 ≤ m) (h1:m ≤ 1000000) (h2:-1000000 ≤ b ∧ b ≤ 1000000):-1000000000000 ≤ m * b ∧ m * b ≤ 1000000000000:=by
 have a1:m * b ≤ m * 1000000:=Int.mul_le_mul_of_nonneg_left h2.2 h0
 have a2:m * (-1000000) ≤ m * b:=Int.mul_le_mul_of_nonneg_left h2.1 h0
 omega
theorem comb_len:∀ {m n:Int} {as bs:List Int},as.length = bs.length → (comb m n as bs).length = as.length
 | _,_,[],[],_=>rfl
 | _,_,[],_ :: _,h=>by simp at h
 | _,_,_ :: _,[],h=>by simp at h
 | m,n,a :: as,b :: bs,h=>by
   simp only [comb,List.length_cons]
   rw [comb_len (by simpa using h)]
theorem comb_snoc:∀ {m n:Int} {as bs:List Int} {i:Nat} (h:i < as.length) (h':i < bs.length),comb m n (as.take (i + 1)) (bs.take (i + 1)) = comb m n (as.take i) (bs.take i) ++ [m * as[i] + n * bs[i]]
 | _,_,[],_,i,h,_=>by simp at h
 | _,_,_ :: _,[],i,_,h=>by simp at h
 | m,n,a :: as,b :: bs,0,h,h'=>by simp [comb]
 | m,n,a :: as,b :: bs,i + 1,h,h'=>by
   have:=comb_snoc (m:=m) (n:=n) (as:=as) (bs:=bs) (i:=i) (by simpa using h) (by simpa using h')
   simp only [List.take_succ_cons,comb,List.cons_append,List.getElem_cons_succ] at this ⊢
   rw [this]
theorem linSum_eq {a b:Lin} {m n:Int} (h1:linOk a = true) (h2:linOk b = true) (h3:within m 0 1000000 = true) (h4:within n 0 1000000 = true):linSum a m b n = linSum0 a m b n:=by simp [linSum,h1,h2,h3,h4]
theorem farGo_step {ls:List Lin} {ts:List Int} {i:Nat} (h:i < ls.length) (h':i < ts.length) (out:Lin):farGo (ls.drop i) (ts.drop i) out = if (linSum out 1 ls[i] ts[i]).2 then farGo (ls.drop (i + 1)) (ts.drop (i + 1)) (linSum out 1 ls[i] ts[i]).1 else (lin0,false):=by
 rw [List.drop_eq_getElem_cons h,List.drop_eq_getElem_cons h',farGo]
end Go.Mod
namespace Go.Mod
open Go.Eng
theorem take_snoc {α:Type} {xs:List α} {i:Nat} (h:i < xs.length):xs.take (i + 1) = xs.take i ++ [xs[i]]:=by rw [List.take_add_one,List.getElem?_eq_getElem h]; rfl
theorem numsGo_cons (p:Option Term) (t:Term) (ts:List Term) (n:Int) (ns:List Int):numsGo p (t :: ts) (n :: ns) = (isTerm t && (within n (-50) 50 && (decide (n ≠ 0) && ((match p with | none=>true | some q=>sLess (termText q) (termText t)) && numsGo (some t) ts ns)))):=rfl
theorem numsGo_mem:∀ {ts:List Term} {ns:List Int} {p:Option Term},numsGo p ts ns = true → ns.length = ts.length → (∀ t ∈ ts,isTerm t = true) ∧ (∀ n ∈ ns,-50 ≤ n ∧ n ≤ 50)
 | [],[],_,_,_=>by simp
 | [],_ :: _,_,_,h=>by simp at h
 | _ :: _,[],_,_,h=>by simp at h
 | t :: ts,n :: ns,p,h,hl=>by
   rw [numsGo_cons] at h
   simp only [Bool.and_eq_true] at h
   obtain ⟨h1,h2⟩:=numsGo_mem h.2.2.2.2 (by simpa using hl)
   have h3:=withinB_iff.1 h.2.1
   refine ⟨fun u hu=>?_,fun m hm=>?_⟩
   ·rcases List.mem_cons.1 hu with rfl | hu
    ·exact h.1
    ·exact h1 u hu
   ·rcases List.mem_cons.1 hm with rfl | hm
    ·exact h3
    ·exact h2 m hm
theorem atomWf_sum {a:Atom} (h:atomWf a = true) (k:a.kind = 2):isNone a.A = true ∧ isNone a.B = true ∧ a.nums.length ≤ 4 ∧ a.times.length = a.nums.length ∧ (-1000 ≤ a.bound ∧ a.bound ≤ 1000) ∧ numsGo none a.nums a.times = true:=by
 rw [atomWf,if_neg (by omega),if_pos k] at h
 simp only [Bool.and_eq_true,decide_eq_true_eq] at h
 have h3:=withinB_iff.1 h.2.2.1
 have h5:=withinB_iff.1 h.2.2.2.2.1
 exact ⟨h.1,h.2.1,by omega,h.2.2.2.1,h5,h.2.2.2.2.2⟩
theorem atomWf_kind {a:Atom} (h:atomWf a = true):a.kind = 1 ∨ a.kind = 2:=by
 rcases Classical.em (a.kind = 1) with k1 | k1
 ·exact .inl k1
 ·rcases Classical.em (a.kind = 2) with k2 | k2
  ·exact .inr k2
  ·simp [atomWf,k1,k2] at h
theorem atomWf_eq {a:Atom} (h:atomWf a = true) (k:a.kind = 1):isTerm a.A = true ∧ isTerm a.B = true:=by
 simp only [atomWf,k,if_true,Bool.and_eq_true] at h
 exact ⟨h.1,h.2.1⟩
theorem atomTerms_ok {a:Atom} (h:atomWf a = true):(atomTerms a).length ≤ 4 ∧ ∀ t ∈ atomTerms a,isTerm t = true:=by
 unfold atomTerms
 rcases Classical.em (a.kind = 1) with k1 | k1
 ·rw [if_pos k1]
  have:=atomWf_eq h k1
  refine ⟨by simp,fun t ht=>?_⟩
  simp only [List.mem_cons,List.not_mem_nil,or_false] at ht
  rcases ht with rfl | rfl
  ·exact this.1
  ·exact this.2
 ·rw [if_neg k1]
  have k2:a.kind = 2:=(atomWf_kind h).resolve_left k1
  have:=atomWf_sum h k2
  exact ⟨this.2.2.1,(numsGo_mem this.2.2.2.2.2 this.2.2.2.1).1⟩
def allTerms (lits:List LitD):List Term:=lits.flatMap fun l=>atomTerms l.atom
theorem termsOf_eq (lits:List LitD):termsOf lits = termParts (allTerms lits):=rfl
theorem allTerms_snoc {lits:List LitD} {i:Nat} (h:i < lits.length):allTerms (lits.take (i + 1)) = allTerms (lits.take i) ++ atomTerms lits[i].atom:=by
 rw [take_snoc h]
 simp only [allTerms,List.flatMap_append,List.flatMap_cons,List.flatMap_nil,List.append_nil]
theorem allTerms_ok:∀ {lits:List LitD},(∀ l ∈ lits,atomWf l.atom = true) → (allTerms lits).length ≤ 4 * lits.length ∧ ∀ t ∈ allTerms lits,isTerm t = true
 | [],_=>by simp [allTerms]
 | l :: ls,h=>by
   obtain ⟨h1,h2⟩:=allTerms_ok (lits:=ls) fun x hx=>h x (by simp [hx])
   obtain ⟨h3,h4⟩:=atomTerms_ok (h l (by simp))
   simp only [allTerms,List.flatMap_cons,List.length_append,List.length_cons,List.mem_append] at h1 h2 ⊢
   refine ⟨by omega,fun t ht=>?_⟩
   rcases ht with ht | ht
   ·exact h4 t ht
   ·exact h2 t ht
theorem partsGo_all:∀ {ts out:List Term},(∀ t ∈ ts,isTerm t = true) → partsGo ts out = withPartss out ts
 | [],_,_=>by simp [partsGo,withPartss]
 | t :: ts,out,h=>by
   simp only [partsGo,withPartss,h t (by simp),if_true]
   exact partsGo_all fun u hu=>h u (by simp [hu])
theorem termParts_all {ts:List Term} (h:∀ t ∈ ts,isTerm t = true):termParts ts = withPartss [] ts:=partsGo_all h
mutual
theorem withParts_mem:∀ (t:Term) (l:List Term),(∀ u ∈ l,u ∈ withParts l t) ∧ t ∈ withParts l t
 | .mk n ks,l=>by
   have h:=withPartss_mem ks l
   simp only [withParts]
   split
   ·exact ⟨fun u hu=>by simp [h u hu],by simp⟩
   ·rename_i hx
    exact ⟨h,termIdx_nn.1 (by omega)⟩
theorem withPartss_mem:∀ (ts:List Term) (l:List Term),∀ u ∈ l,u ∈ withPartss l ts
 | [],l,u,h=>by simpa [withPartss] using h
 | t :: ts,l,u,h=>by
   simp only [withPartss]
   exact withPartss_mem ts _ u ((withParts_mem t l).1 u h)
end
theorem withPartss_has:∀ (ts:List Term) (l:List Term),∀ t ∈ ts,t ∈ withPartss l ts
 | [],_,t,h=>by simp at h
 | a :: ts,l,t,h=>by
   simp only [withPartss]
   rcases List.mem_cons.1 h with rfl | h
   ·exact withPartss_mem ts _ _ (withParts_mem _ l).2
   ·exact withPartss_has ts _ t h
mutual
theorem withParts_right:∀ (t:Term) (d:Nat) (l:List Term),d ≤ 4 → tShape t d = true → many t d ≤ 12 → (∀ u ∈ l,isTerm u = true) → ∀ u ∈ withParts l t,isTerm u = true
 | .mk n ks,0,l,_,h,_,_,u,_=>by simp [tShape] at h
 | .mk n ks,d + 1,l,hd,h,hm,hl,u,hu=>by
   have h':=h
   simp only [tShape,Bool.and_eq_true] at h'
   have hk:=withPartss_right ks d l (by omega) h'.2.2 (by simp only [many] at hm; omega) hl
   simp only [withParts] at hu
   split at hu
   ·simp only [List.mem_append,List.mem_cons,List.not_mem_nil,or_false] at hu
    rcases hu with hu | rfl
    ·exact hk u hu
    ·rw [← right_eq]
     have up:∀ (k:Nat) (t:Term) (d:Nat),d + k ≤ 4 → tShape t d = true → tShape t (d + k) = true:=by
      intro k
      induction k with
      | zero=>intro t d _ h; exact h
      | succ k ih=>intro t d hk h; rw [← Nat.add_assoc]; exact tShape_up _ _ (ih t d (by omega) h)
     have s4:=up (4 - (d + 1)) _ (d + 1) (by omega) h
     rw [show d + 1 + (4 - (d + 1)) = 4 by omega] at s4
     have m1:=(size_tShape (.mk n ks) (d + 1) hd).1 h
     have m2:=(size_tShape (.mk n ks) 4 (by omega)).1 s4
     simp only [right,s4,Bool.true_and,decide_eq_true_eq]
     have mm:∀ (k:Nat) (t:Term) (d:Nat),d + k ≤ 4 → tShape t d = true → many t (d + k) = many t d:=by
      intro k
      induction k with
      | zero=>intro t d _ _; rfl
      | succ k ih=>
        intro t d hk h
        have h1:=ih t d (by omega) h
        have:∀ (d:Nat) (t:Term),tShape t d = true → many t (d + 1) = many t d:=by
         intro d
         induction d with
         | zero=>intro t h; cases t; simp [tShape] at h
         | succ d ihd=>
           intro t h
           cases t with
           | mk n ks=>
             simp only [tShape,Bool.and_eq_true] at h
             have hs:∀ (ks:List Term),tShapes ks d = true → manys ks (d + 1) = manys ks d:=by
              intro ks
              induction ks with
              | nil=>intro _; simp [manys]
              | cons a as iha=>
                intro h
                simp only [tShapes,Bool.and_eq_true] at h
                simp only [manys,ihd a h.1,iha h.2]
             simp only [many,hs ks h.2.2]
        rw [← Nat.add_assoc,this (d + k) t (up k t d (by omega) h),h1]
     have:=mm (4 - (d + 1)) (.mk n ks) (d + 1) (by omega) h
     rw [show d + 1 + (4 - (d + 1)) = 4 by omega] at this
     omega
   ·exact hk u hu
theorem withPartss_right:∀ (ts:List Term) (d:Nat) (l:List Term),d ≤ 4 → tShapes ts d = true → manys ts d ≤ 12 → (∀ u ∈ l,isTerm u = true) → ∀ u ∈ withPartss l ts,isTerm u = true
 | [],_,l,_,_,_,hl,u,hu=>hl u (by simpa [withPartss] using hu)
 | t :: ts,d,l,hd,h,hm,hl,u,hu=>by
   simp only [tShapes,Bool.and_eq_true] at h
   simp only [manys] at hm
   simp only [withPartss] at hu
   exact withPartss_right ts d _ hd h.2 (by omega) (withParts_right t d l hd h.1 (by omega) hl) u hu
end
theorem withPartss_terms:∀ (ts l:List Term),(∀ t ∈ ts,isTerm t = true) → (∀ u ∈ l,isTerm u = true) → ∀ u ∈ withPartss l ts,isTerm u = true
 | [],l,_,hl,u,hu=>hl u (by simpa [withPartss] using hu)
 | t :: ts,l,ht,hl,u,hu=>by
   simp only [withPartss] at hu
   have h4:=ht t (by simp)
   have hr:=h4
   rw [← right_eq] at hr
   simp only [right,Bool.and_eq_true,decide_eq_true_eq] at hr
   exact withPartss_terms ts _ (fun x hx=>ht x (by simp [hx])) (withParts_right t 4 l (by omega) hr.1 hr.2 hl) u hu
theorem termParts_terms {ts:List Term} (h:∀ t ∈ ts,isTerm t = true):∀ u ∈ termParts ts,isTerm u = true:=by
 rw [termParts_all h]
 exact withPartss_terms ts [] h (by simp)
theorem termParts_has {ts:List Term} (h:∀ t ∈ ts,isTerm t = true):∀ t ∈ ts,t ∈ termParts ts:=by
 rw [termParts_all h]
 exact withPartss_has ts []
theorem eqsOf_snoc {lits:List LitD} {i:Nat} (h:i < lits.length):eqsOf (lits.take (i + 1)) = eqsOf (lits.take i) ++ (if lits[i].atom.kind = 1 ∧ lits[i].no = false then [⟨lits[i].atom.A,lits[i].atom.B⟩] else []):=by
 rw [take_snoc h]
 simp only [eqsOf,List.filterMap_append,List.filterMap_cons,List.filterMap_nil]
 split <;> simp_all
theorem eqsOf_len (lits:List LitD):(eqsOf lits).length ≤ lits.length:=by
 unfold eqsOf
 exact List.length_filterMap_le ..
theorem linGo_snoc {nums:List Term}:∀ {ts:List Term} {ns cs:List Int} {i:Nat} (h:i < ts.length) (h':i < ns.length),linGo nums (ts.take (i + 1)) (ns.take (i + 1)) cs = addAt (linGo nums (ts.take i) (ns.take i) cs) (termIdx nums ts[i]) ns[i]
 | [],_,_,_,h,_=>by simp at h
 | _ :: _,[],_,_,_,h=>by simp at h
 | t :: ts,n :: ns,cs,0,_,_=>by simp [linGo]
 | t :: ts,n :: ns,cs,i + 1,h,h'=>by
   simp only [List.take_succ_cons,linGo,List.getElem_cons_succ]
   exact linGo_snoc (by simpa using h) (by simpa using h')
theorem linGo_len {nums:List Term}:∀ {ts:List Term} {ns cs:List Int},(linGo nums ts ns cs).length = cs.length
 | [],_,_=>by simp [linGo]
 | _ :: _,[],_=>by simp [linGo]
 | t :: ts,n :: ns,cs=>by simp only [linGo]; rw [linGo_len,addAt_len]
theorem addAt_bound:∀ {cs:List Int} {i v m k:Int},(∀ c ∈ cs,-m ≤ c ∧ c ≤ m) → -k ≤ v → v ≤ k → 0 ≤ k → ∀ c ∈ addAt cs i v,-(m + k) ≤ c ∧ c ≤ m + k
 | [],i,v,m,k,_,_,_,_,c,hc=>by simp [addAt] at hc
 | a :: cs,i,v,m,k,h,h1,h2,h3,c,hc=>by
   have ha:=h a (by simp)
   simp only [addAt] at hc
   split at hc
   ·rcases List.mem_cons.1 hc with rfl | hc
    ·omega
    ·have:=h c (by simp [hc]); omega
   ·rcases List.mem_cons.1 hc with rfl | hc
    ·omega
    ·exact addAt_bound (fun x hx=>h x (by simp [hx])) h1 h2 h3 c hc
theorem linGo_bound {nums:List Term}:∀ {ts:List Term} {ns cs:List Int} {m:Int},(∀ c ∈ cs,-m ≤ c ∧ c ≤ m) → (∀ n ∈ ns,-50 ≤ n ∧ n ≤ 50) → 0 ≤ m → ∀ c ∈ linGo nums ts ns cs,-(m + 50 * ts.length) ≤ c ∧ c ≤ m + 50 * ts.length
 | [],_,cs,m,h,_,_,c,hc=>by simp only [linGo] at hc; have:=h c hc; simp; omega
 | _ :: _,[],cs,m,h,_,_,c,hc=>by simp only [linGo] at hc; have:=h c hc; omega
 | t :: ts,n :: ns,cs,m,h,hn,hm,c,hc=>by
   simp only [linGo] at hc
   have h1:=hn n (by simp)
   have:=linGo_bound (m:=m + 50) (addAt_bound h h1.1 h1.2 (by omega)) (fun x hx=>hn x (by simp [hx])) (by omega) c hc
   simp only [List.length_cons]
   omega
theorem rowsI_set {cs:List Int} {i:Nat} {v:Int} (h:i < cs.length):(rowsI cs).set i [.val (.int .i64 v)] = rowsI (cs.set i v):=by
 simp [rowsI,List.map_set]
theorem linsOf_snoc {nums:List Term} {lits:List LitD} {i:Nat} (h:i < lits.length):linsOf nums (lits.take (i + 1)) = linsOf nums (lits.take i) ++ litLins nums lits[i]:=by
 rw [take_snoc h]
 simp only [linsOf,List.flatMap_append,List.flatMap_cons,List.flatMap_nil,List.append_nil]
theorem litLins_len (nums:List Term) (l:LitD):(litLins nums l).length ≤ 2:=by
 unfold litLins
 split
 ·simp
 ·split <;> simp
theorem linsOf_len (nums:List Term):∀ (lits:List LitD),(linsOf nums lits).length ≤ 2 * lits.length
 | []=>by simp [linsOf]
 | l :: ls=>by
   have h1:=litLins_len nums l
   have h2:=linsOf_len nums ls
   simp only [linsOf,List.flatMap_cons,List.length_append,List.length_cons] at h2 ⊢
   omega
structure Fit (nums:List Term) (l:LitD):Prop where
 wf:atomWf l.atom = true
 sum:l.atom.kind = 2 → ∀ t ∈ l.atom.nums,t ∈ nums
 eq:l.atom.kind = 1 → (l.atom.A ∈ nums ↔ l.atom.B ∈ nums)
end Go.Mod
namespace Go.Mod
open Go.Eng
theorem u8_cases (a b:UInt8):(a < b ∧ ¬ b < a ∧ a ≠ b) ∨ (a = b ∧ ¬ a < b ∧ ¬ b < a) ∨ (b < a ∧ ¬ a < b ∧ a ≠ b):=by
 simp only [UInt8.lt_iff_toNat_lt,ne_eq,← UInt8.toNat_inj]
 omega
theorem less_gt:∀ (a b:List UInt8),(!(Op.bytesLess a b || decide (a = b))) = Op.bytesLess b a
 | [],[]=>by simp [Op.bytesLess]
 | [],_ :: _=>by simp [Op.bytesLess]
 | _ :: _,[]=>by simp [Op.bytesLess]
 | a :: x,b :: y=>by
   have ih:=less_gt x y
   rcases u8_cases a b with ⟨h1,h2,h3⟩ | ⟨rfl,h1,h2⟩ | ⟨h1,h2,h3⟩
   ·have h4:¬ b = a:=fun h=>h3 h.symm
    simp [Op.bytesLess,h1,h2,h4]
   ·simp [Op.bytesLess,h1,← ih]
   ·have h4:¬ b = a:=fun h=>h3 h.symm
    simp [Op.bytesLess,h1,h2,h3]
theorem less_irrefl:∀ (a:List UInt8),Op.bytesLess a a = false
 | []=>rfl
 | a :: x=>by simp [Op.bytesLess,less_irrefl x]
theorem less_trans:∀ {a b c:List UInt8},Op.bytesLess a b = true → Op.bytesLess b c = true → Op.bytesLess a c = true
 | _,[],_,h,_=>by simp [Op.bytesLess] at h
 | _,_ :: _,[],_,h=>by simp [Op.bytesLess] at h
 | [],_ :: _,_ :: _,_,_=>by simp [Op.bytesLess]
 | a :: x,b :: y,c :: z,h1,h2=>by
   simp only [Op.bytesLess,Bool.or_eq_true,decide_eq_true_eq,Bool.and_eq_true,beq_iff_eq] at h1 h2 ⊢
   rcases h1 with h1 | ⟨rfl,h1⟩
   ·rcases h2 with h2 | ⟨rfl,h2⟩
    ·left
     rw [UInt8.lt_iff_toNat_lt] at *
     omega
    ·exact .inl h1
   ·rcases h2 with h2 | ⟨rfl,h2⟩
    ·exact .inl h2
    ·exact .inr ⟨rfl,less_trans h1 h2⟩
theorem less_ne {a b:List UInt8} (h:Op.bytesLess a b = true):a ≠ b:=by
 rintro rfl
 rw [less_irrefl] at h
 cases h
theorem less_total {a b:List UInt8} (h:a ≠ b) (h2:Op.bytesLess a b = false):Op.bytesLess b a = true:=by
 rw [← less_gt a b,h2]
 simp [h]
end Go.Mod
namespace Go.Mod
open Go.Eng
theorem fit_eq {nums:List Term} {a b:Term} (ha:a ∈ nums) (hb:b ∈ nums) (ta:isTerm a = true) (tb:isTerm b = true):Fit nums (eqLit a b):=by
 refine ⟨?_,fun h=>?_,fun _=>?_⟩
 ·simp [atomWf,eqLit,eqAtom,ta,tb]
 ·simp [eqLit,eqAtom] at h
 ·simp [eqLit,eqAtom,ha,hb]
theorem wf_less {a b:Term} (ta:isTerm a = true) (tb:isTerm b = true) (h:sLess (termText a) (termText b) = true) (m n:Int) (hm:within m (-50) 50 = true) (hn:within n (-50) 50 = true) (hm0:m ≠ 0) (hn0:n ≠ 0):atomWf ⟨2,term0,term0,[a,b],[m,n],0,true⟩ = true:=by
 have h2:numsGo none [a,b] [m,n] = true:=by
  rw [numsGo_cons,numsGo_cons]
  have e:numsGo (some b) [] [] = true:=rfl
  simp [ta,tb,hm,hn,hm0,hn0,h,e]
 have e:atomWf ⟨2,term0,term0,[a,b],[m,n],0,true⟩ = (isNone term0 && (isNone term0 && (within ([a,b].length:Int) 1 4 && (decide ([m,n].length = [a,b].length) && (within 0 (-1000) 1000 && numsGo none [a,b] [m,n]))))):=rfl
 rw [e,h2]
 rfl
theorem fit_less {nums:List Term} {a b:Term} (ha:a ∈ nums) (hb:b ∈ nums) (ta:isTerm a = true) (tb:isTerm b = true) (hne:a ≠ b):Fit nums (lessLit a b):=by
 have ht:termText a ≠ termText b:=fun h=>hne (termText_inj ta tb h)
 unfold lessLit
 cases h:sLess (termText b) (termText a)
 ·have h2:sLess (termText a) (termText b) = true:=less_total (a:=termText b) (b:=termText a) (fun e=>ht e.symm) h
  refine ⟨wf_less ta tb h2 1 (-1) rfl rfl (by omega) (by omega),fun _ t hm=>?_,fun h=>?_⟩
  ·simp only [Bool.false_eq_true,if_false,List.mem_cons,List.not_mem_nil,or_false] at hm
   rcases hm with rfl | rfl
   ·exact ha
   ·exact hb
  ·simp at h
 ·refine ⟨wf_less tb ta h (-1) 1 rfl rfl (by omega) (by omega),fun _ t hm=>?_,fun h=>?_⟩
  ·simp only [if_true,List.mem_cons,List.not_mem_nil,or_false] at hm
   rcases hm with rfl | rfl
   ·exact hb
   ·exact ha
  ·simp at h
theorem fit_both {s:Sig} {lits:List LitD} (h:bothOk s lits = true):(∀ l ∈ lits,Fit (numsOf s lits) l) ∧ (∀ t ∈ numsOf s lits,isTerm t = true) ∧ (numsOf s lits).length ≤ 4 ∧ lits.length ≤ 6 ∧ sigOk s = true ∧ (∀ l ∈ lits,atomWf l.atom = true) ∧ (∀ t ∈ termsOf lits,isTerm t = true) ∧ (termsOf lits).length ≤ 24:=by
 simp only [bothOk,Bool.and_eq_true,decide_eq_true_eq,List.all_eq_true] at h
 obtain ⟨⟨⟨⟨hs,h6⟩,hA⟩,h24⟩,h4⟩:=h
 have hw:∀ l ∈ lits,atomWf l.atom = true:=by
  intro l hl
  have:=hA l hl
  simp only [atomOk,Bool.and_eq_true] at this
  exact this.2.1
 have hok:=(allTerms_ok hw).2
 have htt:∀ t ∈ termsOf lits,isTerm t = true:=by rw [termsOf_eq]; exact termParts_terms hok
 have hin:∀ l ∈ lits,∀ t ∈ atomTerms l.atom,t ∈ termsOf lits:=by
  intro l hl t ht
  rw [termsOf_eq]
  exact termParts_has hok t (List.mem_flatMap.2 ⟨l,hl,ht⟩)
 have hnum:∀ t,t ∈ numsOf s lits ↔ t ∈ termsOf lits ∧ isNumber s t = true:=fun t=>List.mem_filter
 refine ⟨fun l hl=>⟨hw l hl,fun k t ht=>?_,fun k=>?_⟩,fun t ht=>htt t ((hnum t).1 ht).1,h4,h6,hs,hw,htt,h24⟩
 ·have hk1:¬ l.atom.kind = 1:=by omega
  have ha:=hA l hl
  simp only [atomOk,Bool.and_eq_true,hk1,if_false,List.all_eq_true] at ha
  have hm:t ∈ atomTerms l.atom:=by simp only [atomTerms,hk1,if_false]; exact ht
  exact (hnum t).2 ⟨hin l hl t hm,ha.2.2 t ht⟩
 ·have ha:=hA l hl
  simp only [atomOk,Bool.and_eq_true,k,if_true,eqSorted,decide_eq_true_eq] at ha
  have hm:l.atom.A ∈ termsOf lits ∧ l.atom.B ∈ termsOf lits:=by
   have:atomTerms l.atom = [l.atom.A,l.atom.B]:=by simp [atomTerms,k]
   exact ⟨hin l hl _ (by rw [this]; simp),hin l hl _ (by rw [this]; simp)⟩
  rw [hnum,hnum]
  simp only [hm.1,hm.2,true_and,isNumber,ha.2.2.2]
end Go.Mod
namespace Go.Mod
open Go.Eng
theorem ratOk_iff {a:Rat}:ratOk a = true ↔ (-1000000000 ≤ a.N ∧ a.N ≤ 1000000000) ∧ (1 ≤ a.D ∧ a.D ≤ 1000000000) ∧ Int.gcd a.N a.D = 1:=by
 simp only [ratOk,Bool.and_eq_true,withinB_iff,decide_eq_true_eq]
 constructor
 ·rintro ⟨h1,h2,h3⟩; exact ⟨h1,h2,by omega⟩
 ·rintro ⟨h1,h2,h3⟩; exact ⟨h1,h2,by omega⟩
theorem rat_ext {a b:Rat} (h1:a.N = b.N) (h2:a.D = b.D):a = b:=by cases a; cases b; simp_all
theorem rat_cross {a b:Rat} (ha:ratOk a = true) (hb:ratOk b = true) (h:a.N * b.D = b.N * a.D):a = b:=by
 rw [ratOk_iff] at ha hb
 obtain ⟨_,⟨a1,_⟩,ag⟩:=ha
 obtain ⟨_,⟨b1,_⟩,bg⟩:=hb
 have hn:a.N.natAbs * b.D.natAbs = b.N.natAbs * a.D.natAbs:=by rw [← Int.natAbs_mul,← Int.natAbs_mul,h]
 have ca:Nat.Coprime a.D.natAbs a.N.natAbs:=by rw [Nat.Coprime,Nat.gcd_comm]; exact ag
 have cb:Nat.Coprime b.D.natAbs b.N.natAbs:=by rw [Nat.Coprime,Nat.gcd_comm]; exact bg
 have d1:a.D.natAbs ∣ b.D.natAbs:=ca.dvd_of_dvd_mul_left ⟨b.N.natAbs,by rw [hn,Nat.mul_comm]⟩
 have d2:b.D.natAbs ∣ a.D.natAbs:=cb.dvd_of_dvd_mul_left ⟨a.N.natAbs,by rw [← hn,Nat.mul_comm]⟩
 have e:a.D.natAbs = b.D.natAbs:=Nat.dvd_antisymm d1 d2
 have eD:a.D = b.D:=by omega
 refine rat_ext ?_ eD
 rw [eD] at h
 exact Int.eq_of_mul_eq_mul_right (by omega) h
theorem ratLess_iff {a b:Rat} (ha:ratOk a = true) (hb:ratOk b = true):ratLess a b = true ↔ a.N * b.D < b.N * a.D:=by
 simp [ratLess,ha,hb]
theorem cmpRat_zero {a b:Rat} (ha:ratOk a = true) (hb:ratOk b = true):cmpRat a b = 0 ↔ a = b:=by
 constructor
 ·intro h
  unfold cmpRat at h
  split at h
  ·omega
  ·rename_i h1
   split at h
   ·omega
   ·rename_i h2
    rw [ratLess_iff ha hb] at h1
    rw [ratLess_iff hb ha] at h2
    exact rat_cross ha hb (by omega)
 ·rintro rfl
  have:ratLess a a = false:=by
   cases h:ratLess a a
   ·rfl
   ·rw [ratLess_iff ha ha] at h; omega
  simp [cmpRat,this]
theorem cmpRat_neg {a b:Rat}:cmpRat a b < 0 ↔ ratLess a b = true:=by
 unfold cmpRat
 split
 ·rename_i h; simp [h]
 ·rename_i h
  split <;> simp_all
theorem ratLess_trans {a b c:Rat} (ha:ratOk a = true) (hb:ratOk b = true) (hc:ratOk c = true) (h1:ratLess a b = true) (h2:ratLess b c = true):ratLess a c = true:=by
 rw [ratLess_iff ha hb] at h1
 rw [ratLess_iff hb hc] at h2
 rw [ratLess_iff ha hc]
 rw [ratOk_iff] at ha hb hc
 have e1:a.N * b.D * c.D < b.N * a.D * c.D:=Int.mul_lt_mul_of_pos_right h1 (by omega)
 have e2:b.N * c.D * a.D < c.N * b.D * a.D:=Int.mul_lt_mul_of_pos_right h2 (by omega)
 have e3:b.N * a.D * c.D = b.N * c.D * a.D:=by rw [Int.mul_assoc,Int.mul_comm a.D,← Int.mul_assoc]
 have e4:a.N * c.D * b.D < c.N * a.D * b.D:=by
  rw [Int.mul_assoc,Int.mul_comm c.D,← Int.mul_assoc,Int.mul_assoc c.N,Int.mul_comm a.D,← Int.mul_assoc]
  omega
 exact Int.lt_of_mul_lt_mul_right e4 (by omega)
def ratsOk (as:List Rat):Bool:=as.all ratOk
theorem cmpRats_zero:∀ {as bs:List Rat},ratsOk as = true → ratsOk bs = true → (cmpRats as bs = 0 ↔ as = bs)
 | [],[],_,_=>by simp [cmpRats]
 | [],b :: bs,_,_=>by simp [cmpRats]
 | a :: as,[],_,_=>by simp [cmpRats]
 | a :: as,b :: bs,ha,hb=>by
   simp only [ratsOk,List.all_cons,Bool.and_eq_true] at ha hb
   have h:=cmpRat_zero ha.1 hb.1
   have h2:=cmpRats_zero (as:=as) (bs:=bs) ha.2 hb.2
   simp only [cmpRats]
   split
   ·rename_i e; rw [h2,List.cons.injEq,h.1 e]; simp
   ·rename_i e
    constructor
    ·intro e2; exact absurd e2 e
    ·intro e2; rw [List.cons.injEq] at e2; exact absurd (h.2 e2.1) e
def ratsLess:List Rat → List Rat → Bool
 | a :: as,b :: bs=>if a = b then ratsLess as bs else ratLess a b
 | _,_=>false
def rowLess (a b:Row):Bool:=if a.name = b.name then (if a.args.length = b.args.length then ratsLess a.args b.args else decide (a.args.length < b.args.length)) else sLess a.name b.name
theorem cmpRats_neg:∀ {as bs:List Rat},ratsOk as = true → ratsOk bs = true → as.length = bs.length → (cmpRats as bs < 0 ↔ ratsLess as bs = true)
 | [],[],_,_,_=>by simp [cmpRats,ratsLess]
 | [],b :: bs,_,_,h=>by simp at h
 | a :: as,[],_,_,h=>by simp at h
 | a :: as,b :: bs,ha,hb,hl=>by
   simp only [ratsOk,List.all_cons,Bool.and_eq_true] at ha hb
   have h:=cmpRat_zero ha.1 hb.1
   have h2:=cmpRats_neg (as:=as) (bs:=bs) ha.2 hb.2 (by simpa using hl)
   simp only [cmpRats,ratsLess]
   split
   ·rename_i e; rw [if_pos (h.1 e),h2]
   ·rename_i e; rw [if_neg (fun x=>e (h.2 x)),cmpRat_neg]
theorem cmpStr_zero {a b:Str}:cmpStr a b = 0 ↔ a = b:=by
 unfold cmpStr
 constructor
 ·intro h
  split at h
  ·omega
  ·rename_i h1
   split at h
   ·omega
   ·rename_i h2
    rcases Classical.em (a = b) with e | e
    ·exact e
    ·exact absurd (less_total e (by simpa [sLess] using h1)) h2
 ·rintro rfl
  simp [sLess,less_irrefl]
theorem cmpStr_neg {a b:Str}:cmpStr a b < 0 ↔ sLess a b = true:=by
 unfold cmpStr
 split
 ·rename_i h; simp [h]
 ·rename_i h
  split <;> simp_all
theorem cmpInt_zero {a b:Int}:cmpInt a b = 0 ↔ a = b:=by unfold cmpInt; split <;> (try split) <;> omega
theorem cmpInt_neg {a b:Int}:cmpInt a b < 0 ↔ a < b:=by unfold cmpInt; split <;> (try split) <;> omega
theorem cmpRow_zero {a b:Row} (ha:ratsOk a.args = true) (hb:ratsOk b.args = true):cmpRow a b = 0 ↔ a.name = b.name ∧ a.args = b.args:=by
 unfold cmpRow
 constructor
 ·intro h
  split at h
  ·rename_i e; exact absurd h e
  ·rename_i e
   split at h
   ·rename_i e2; exact absurd h e2
   ·exact ⟨cmpStr_zero.1 (Classical.not_not.1 e),(cmpRats_zero ha hb).1 h⟩
 ·rintro ⟨e,e2⟩
  have h1:cmpStr a.name b.name = 0:=cmpStr_zero.2 e
  have h2:cmpInt a.args.length b.args.length = 0:=cmpInt_zero.2 (by rw [e2])
  have h3:cmpRats a.args b.args = 0:=(cmpRats_zero ha hb).2 e2
  simp [h1,h2,h3]
theorem cmpRow_neg {a b:Row} (ha:ratsOk a.args = true) (hb:ratsOk b.args = true):cmpRow a b < 0 ↔ rowLess a b = true:=by
 unfold cmpRow rowLess
 split
 ·rename_i e
  rw [if_neg (fun x=>e (cmpStr_zero.2 x)),cmpStr_neg]
 ·rename_i e
  rw [if_pos (cmpStr_zero.1 (Classical.not_not.1 e))]
  split
  ·rename_i e2
   have:¬ a.args.length = b.args.length:=fun x=>e2 (cmpInt_zero.2 (by rw [x]))
   rw [if_neg this,cmpInt_neg]
   simp
  ·rename_i e2
   have:=cmpInt_zero.1 (Classical.not_not.1 e2)
   have h3:a.args.length = b.args.length:=by omega
   rw [if_pos h3,cmpRats_neg ha hb h3]
theorem ratsLess_trans:∀ {as bs cs:List Rat},ratsOk as = true → ratsOk bs = true → ratsOk cs = true → ratsLess as bs = true → ratsLess bs cs = true → ratsLess as cs = true
 | [],_,_,_,_,_,h,_=>by simp [ratsLess] at h
 | _ :: _,[],_,_,_,_,h,_=>by simp [ratsLess] at h
 | _ :: _,_ :: _,[],_,_,_,_,h=>by simp [ratsLess] at h
 | a :: as,b :: bs,c :: cs,ha,hb,hc,h1,h2=>by
   simp only [ratsOk,List.all_cons,Bool.and_eq_true] at ha hb hc
   simp only [ratsLess] at h1 h2 ⊢
   split at h1
   ·rename_i e
    subst e
    split at h2
    ·rename_i e2
     rw [if_pos e2]
     exact ratsLess_trans ha.2 hb.2 hc.2 h1 h2
    ·rename_i e2
     rw [if_neg e2]; exact h2
   ·rename_i e
    split at h2
    ·rename_i e2
     subst e2
     rw [if_neg e]; exact h1
    ·have h3:=ratLess_trans ha.1 hb.1 hc.1 h1 h2
     have:¬ a = c:=by
      rintro rfl
      rw [ratLess_iff ha.1 ha.1] at h3; omega
     rw [if_neg this]; exact h3
theorem rowLess_trans {a b c:Row} (ha:ratsOk a.args = true) (hb:ratsOk b.args = true) (hc:ratsOk c.args = true) (h1:rowLess a b = true) (h2:rowLess b c = true):rowLess a c = true:=by
 unfold rowLess at h1 h2 ⊢
 split at h1
 ·rename_i e
  rw [e]
  split at h2
  ·rename_i e2
   rw [if_pos e2]
   split at h1
   ·rename_i l1
    rw [l1]
    split at h2
    ·rename_i l2
     rw [if_pos l2]
     exact ratsLess_trans ha hb hc h1 h2
    ·rename_i l2
     rw [if_neg l2]; exact h2
   ·rename_i l1
    simp only [decide_eq_true_eq] at h1
    split at h2
    ·rename_i l2
     rw [if_neg (by omega)]; simp; omega
    ·simp only [decide_eq_true_eq] at h2
     rw [if_neg (by omega)]; simp; omega
  ·rename_i e2
   rw [if_neg e2]; exact h2
 ·rename_i e
  split at h2
  ·rename_i e2
   rw [← e2,if_neg e]; exact h1
  ·have h3:sLess a.name c.name = true:=less_trans h1 h2
   rw [if_neg (less_ne h3)]; exact h3
theorem rowWf_args {r:Row} (h:rowWf r = true):ratsOk r.args = true:=by
 simp only [rowWf,Bool.and_eq_true] at h
 exact h.2.2.2
def rowsLess:Option Row → List Row → Bool
 | _,[]=>true
 | p,r :: rs=>rowWf r && ((match p with | none=>true | some q=>rowLess q r) && rowsLess (some r) rs)
theorem rowsGo_eq:∀ (rs:List Row) (p:Option Row),(∀ q,p = some q → rowWf q = true) → rowsGo p rs = rowsLess p rs
 | [],_,_=>rfl
 | r :: rs,p,hp=>by
   simp only [rowsGo,rowsLess]
   cases hr:rowWf r
   ·rfl
   ·rw [rowsGo_eq rs (some r) (fun q e=>by cases e; exact hr)]
    cases p with
    | none=>rfl
    | some q=>
      have h:=cmpRow_neg (rowWf_args (hp q rfl)) (rowWf_args hr)
      have:decide (cmpRow q r < 0) = rowLess q r:=by
       cases hl:rowLess q r
       ·simp only [decide_eq_false_iff_not]; rw [h,hl]; simp
       ·simp only [decide_eq_true_eq]; rw [h,hl]
      simp only [this]
theorem rowsLess_mem:∀ {rs:List Row} {p:Option Row},rowsLess p rs = true → ∀ r ∈ rs,rowWf r = true
 | [],_,_,r,hr=>by simp at hr
 | a :: rs,p,h,r,hr=>by
   simp only [rowsLess,Bool.and_eq_true] at h
   rcases List.mem_cons.1 hr with rfl | hr
   ·exact h.1
   ·exact rowsLess_mem h.2.2 r hr
theorem rowsLess_head:∀ {rs:List Row} {q:Row},rowWf q = true → rowsLess (some q) rs = true → ∀ r ∈ rs,rowLess q r = true
 | [],_,_,_,r,hr=>by simp at hr
 | a :: rs,q,hq,h,r,hr=>by
   simp only [rowsLess,Bool.and_eq_true] at h
   rcases List.mem_cons.1 hr with rfl | hr
   ·exact h.2.1
   ·exact rowLess_trans (rowWf_args hq) (rowWf_args h.1) (rowWf_args (rowsLess_mem h.2.2 r hr)) h.2.1 (rowsLess_head h.1 h.2.2 r hr)
theorem rowsLess_pair:∀ {rs:List Row} {p:Option Row},rowsLess p rs = true → rs.Pairwise (fun a b=>rowLess a b = true)
 | [],_,_=>List.Pairwise.nil
 | a :: rs,p,h=>by
   simp only [rowsLess,Bool.and_eq_true] at h
   exact List.Pairwise.cons (fun r hr=>rowsLess_head h.1 h.2.2 r hr) (rowsLess_pair h.2.2)
theorem modelWf_pair {m:Model} (h:modelWf m = true):m.rows.length ≤ 40 ∧ (∀ r ∈ m.rows,rowWf r = true) ∧ m.rows.Pairwise (fun a b=>rowLess a b = true):=by
 simp only [modelWf,Bool.and_eq_true,decide_eq_true_eq] at h
 rw [rowsGo_eq _ none (by simp)] at h
 exact ⟨h.1,rowsLess_mem h.2,rowsLess_pair h.2⟩
def cut:List Row → Row → Nat
 | [],_=>0
 | r :: rs,t=>if cmpRow r t < 0 then cut rs t + 1 else 0
theorem cut_le:∀ (rs:List Row) (t:Row),cut rs t ≤ rs.length
 | [],_=>by simp [cut]
 | r :: rs,t=>by
   have:=cut_le rs t
   simp only [cut,List.length_cons]
   split <;> omega
def Mono (rs:List Row) (t:Row):Prop:=rs.Pairwise (fun a b=>cmpRow b t < 0 → cmpRow a t < 0)
theorem cut_iff:∀ {rs:List Row} {t:Row},Mono rs t → ∀ (k:Nat) (h:k < rs.length),k < cut rs t ↔ cmpRow rs[k] t < 0
 | [],_,_,k,h=>by simp at h
 | r :: rs,t,hm,k,h=>by
   obtain ⟨h1,h2⟩:=List.pairwise_cons.1 hm
   simp only [cut]
   cases k with
   | zero=>
     simp only [List.getElem_cons_zero]
     split <;> simp_all
   | succ k=>
     simp only [List.getElem_cons_succ]
     have hk:k < rs.length:=by simpa using h
     have h3:=cut_iff (rs:=rs) (t:=t) h2 k hk
     split
     ·rw [← h3]; omega
     ·rename_i hn
      constructor
      ·intro x; omega
      ·intro x; exact absurd (h1 _ (List.getElem_mem hk) x) hn
theorem cut_eq {rs:List Row} {t:Row} (hm:Mono rs t) {i:Nat} (hi:i ≤ rs.length) (h1:∀ (k:Nat) (h:k < rs.length),k < i → cmpRow rs[k] t < 0) (h2:∀ (k:Nat) (h:k < rs.length),i ≤ k → ¬ cmpRow rs[k] t < 0):cut rs t = i:=by
 have h3:=cut_le rs t
 rcases Nat.lt_trichotomy (cut rs t) i with h | h | h
 ·have h4:=(cut_iff hm (cut rs t) (by omega)).2 (h1 _ (by omega) h)
  omega
 ·exact h
 ·have h4:=(cut_iff hm i (by omega)).1 h
  exact absurd h4 (h2 i (by omega) (Nat.le_refl i))
theorem mono_of {m:Model} {t:Row} (h:modelWf m = true) (ht:ratsOk t.args = true):Mono m.rows t:=by
 obtain ⟨_,h1,h2⟩:=modelWf_pair h
 refine List.Pairwise.imp_of_mem ?_ h2
 intro a b ha hb hab hbt
 have wa:=rowWf_args (h1 a ha)
 have wb:=rowWf_args (h1 b hb)
 rw [cmpRow_neg wb ht] at hbt
 rw [cmpRow_neg wa ht]
 exact rowLess_trans wa wb ht hab hbt
def found (rs:List Row) (t:Row):Bool:=match rs[cut rs t]? with | some r=>decide (cmpRow r t = 0) | none=>false
theorem find_cut:∀ {rs:List Row} {t:Row},(∀ r ∈ rs,ratsOk r.args = true) → ratsOk t.args = true → rs.Pairwise (fun a b=>rowLess a b = true) →
 rs.find? (fun r=>decide (r.name = t.name ∧ r.args = t.args)) = if found rs t then rs[cut rs t]? else none
 | [],_,_,_,_=>by simp [found]
 | r :: rs,t,hr,ht,hp=>by
   obtain ⟨h1,h2⟩:=List.pairwise_cons.1 hp
   have ih:=find_cut (rs:=rs) (t:=t) (fun x hx=>hr x (List.mem_cons_of_mem _ hx)) ht h2
   have wr:=hr r (by simp)
   have hz:=cmpRow_zero wr ht
   rw [List.find?_cons]
   rcases Classical.em (r.name = t.name ∧ r.args = t.args) with e | e
   ·have hc:=hz.2 e
    have hcut:cut (r :: rs) t = 0:=by simp [cut,hc]
    simp [e,found,hcut,hc]
   ·simp only [e,decide_false]
    rw [ih]
    rcases Classical.em (cmpRow r t < 0) with hn | hn
    ·have hc2:cut (r :: rs) t = cut rs t + 1:=by simp [cut,hn]
     have hf2:found (r :: rs) t = found rs t:=by simp only [found,hc2,List.getElem?_cons_succ]
     rw [hf2,hc2,List.getElem?_cons_succ]
    ·have hcut:cut (r :: rs) t = 0:=by simp [cut,hn]
     have hf:found (r :: rs) t = false:=by simp [found,hcut,hz,e]
     rw [hf]
     have:found rs t = false:=by
      unfold found
      split
      ·rename_i q hq
       have hq':q ∈ rs:=List.mem_of_getElem? hq
       simp only [decide_eq_false_iff_not]
       intro hc
       have hb:=(cmpRow_zero (hr q (List.mem_cons_of_mem _ hq')) ht).1 hc
       have hl:=h1 q hq'
       apply hn
       rw [cmpRow_neg wr ht]
       have:rowLess r q = rowLess r t:=by simp only [rowLess,hb.1,hb.2]
       rw [← this]; exact hl
      ·rfl
     simp [this]
theorem lookup_cut {m:Model} {t:Row} (h:modelWf m = true) (ht:ratsOk t.args = true):lookup m.rows t.name t.args = if found m.rows t then (m.rows.getD (cut m.rows t) t).val else ⟨0,1⟩:=by
 obtain ⟨_,h1,h2⟩:=modelWf_pair h
 unfold lookup
 rw [find_cut (fun r hr=>rowWf_args (h1 r hr)) ht h2]
 cases hf:found m.rows t
 ·simp
 ·unfold found at hf
  cases hx:m.rows[cut m.rows t]? with
  | none=>simp [hx] at hf
  | some r=>simp [hx,List.getD]
theorem rat01:ratOk ⟨0,1⟩ = true:=by decide
theorem lookup_ok {m:Model} (h:modelWf m = true) (n:Str) (as:List Rat):ratOk (lookup m.rows n as) = true:=by
 obtain ⟨_,h1,_⟩:=modelWf_pair h
 unfold lookup
 split
 ·rename_i r hr
  have:=h1 r (List.mem_of_find?_eq_some hr)
  simp only [rowWf,Bool.and_eq_true] at this
  exact this.2.2.1
 ·exact rat01
theorem value_eq (m:Model) (t:Term):value m t = lookup m.rows t.name (values m t.kids):=by cases t; rfl
theorem values_map (m:Model):∀ (ts:List Term),values m ts = ts.map (value m)
 | []=>rfl
 | t :: ts=>by simp only [values,List.map_cons,values_map m ts]
theorem value_ok {m:Model} (h:modelWf m = true) (t:Term):ratOk (value m t) = true:=by rw [value_eq]; exact lookup_ok h _ _
theorem values_ok {m:Model} (h:modelWf m = true) (ts:List Term):ratsOk (values m ts) = true:=by
 rw [values_map]
 simp only [ratsOk,List.all_map,List.all_eq_true,Function.comp]
 intro t _
 exact value_ok h t
theorem values_len (m:Model) (ts:List Term):(values m ts).length = ts.length:=by rw [values_map]; simp
end Go.Mod
namespace Go.Mod
open Go.Eng
theorem whole_ok {n:Int} (h1:-1000000000 ≤ n) (h2:n ≤ 1000000000):ratOk (whole n) = true:=by
 rw [ratOk_iff]
 exact ⟨⟨h1,h2⟩,⟨Int.le_refl 1,by show (1:Int) ≤ 1000000000; omega⟩,Int.gcd_one_right n⟩
theorem sumGo_drop {m:Model} {ts:List Term} {ns:List Int} {i:Nat} (h:i < ts.length) (h':i < ns.length) (sum:Rat) :
 sumGo m (ts.drop i) (ns.drop i) sum = if (plus sum ns[i] (value m ts[i])).2 then sumGo m (ts.drop (i + 1)) (ns.drop (i + 1)) (plus sum ns[i] (value m ts[i])).1 else none:=by
 rw [List.drop_eq_getElem_cons h,List.drop_eq_getElem_cons h']; rfl
theorem sumGo_end {m:Model} {ts:List Term} {ns:List Int} {i:Nat} (h:ts.length ≤ i) (sum:Rat):sumGo m (ts.drop i) (ns.drop i) sum = some sum:=by
 rw [List.drop_of_length_le h]; rfl
def at0:List Int → Int → Int
 | [],_=>0
 | x :: xs,n=>if x = n then 1 else if x = -n then -1 else at0 xs n
end Go.Mod
namespace Go.Mod
open Go.Eng
def abs1 (n:Int):Int:=if n < -1000000000 then 1000000001 else if 1000000000 < n then 1000000001 else if n < 0 then -n else n
theorem gcd_step {p q:Int} (hp:0 ≤ p) (hq:0 < q):0 ≤ p.tmod q ∧ p.tmod q < q ∧ Int.gcd q (p.tmod q) = Int.gcd p q:=by
 have e:p.tmod q = ((p.natAbs % q.natAbs:Nat):Int):=by
  rw [Int.tmod_eq_emod_of_nonneg hp]
  have h1:(p.natAbs:Int) = p:=by omega
  have h2:(q.natAbs:Int) = q:=by omega
  rw [Int.natCast_emod,h1,h2]
 have hlt:p.natAbs % q.natAbs < q.natAbs:=Nat.mod_lt _ (by omega)
 refine ⟨by omega,by omega,?_⟩
 rw [e]
 simp only [Int.gcd,Int.natAbs_natCast]
 rw [Nat.gcd_comm p.natAbs,Nat.gcd_rec q.natAbs p.natAbs,Nat.gcd_comm]
theorem gcd_zero {p:Int} (hp:0 ≤ p):((Int.gcd p 0:Nat):Int) = p:=by
 simp only [Int.gcd,Int.natAbs_zero,Nat.gcd_zero_right]
 omega
theorem gcd_pos {n d:Int} (h:0 < d):0 < (Int.gcd n d:Int):=by
 have:0 < Int.gcd n d:=Int.gcd_pos_of_ne_zero_right n (by omega)
 omega
theorem tdiv_bound {n g k:Int} (hg:0 < g) (h:-k ≤ n ∧ n ≤ k):-k ≤ n.tdiv g ∧ n.tdiv g ≤ k:=by
 have e:(n.tdiv g).natAbs = n.natAbs / g.natAbs:=Int.natAbs_tdiv n g
 have h2:n.natAbs / g.natAbs ≤ n.natAbs:=Nat.div_le_self _ _
 omega
theorem prod_bound {m b k l:Int} (h1:-k ≤ m ∧ m ≤ k) (h2:-l ≤ b ∧ b ≤ l):-(k * l) ≤ m * b ∧ m * b ≤ k * l:=by
 have e:(m * b).natAbs = m.natAbs * b.natAbs:=Int.natAbs_mul m b
 have h3:m.natAbs * b.natAbs ≤ k.natAbs * l.natAbs:=Nat.mul_le_mul (by omega) (by omega)
 have h4:(k * l).natAbs = k.natAbs * l.natAbs:=Int.natAbs_mul k l
 have h5:0 ≤ k * l:=Int.mul_nonneg (by omega) (by omega)
 omega
theorem prod_rat {m b:Int} (h1:-1000000000 ≤ m ∧ m ≤ 1000000000) (h2:-1000000000 ≤ b ∧ b ≤ 1000000000):-1000000000000000000 ≤ m * b ∧ m * b ≤ 1000000000000000000:=by
 have:=prod_bound h1 h2
 omega
theorem pos_rat {m b:Int} (h1:1 ≤ m ∧ m ≤ 1000000000) (h2:1 ≤ b ∧ b ≤ 1000000000):1 ≤ m * b ∧ m * b ≤ 1000000000000000000:=by
 have:=prod_rat (m:=m) (b:=b) (by omega) (by omega)
 have:=Int.mul_pos (a:=m) (b:=b) (by omega) (by omega)
 omega
theorem ratOf0_pos {n d:Int} (hd:1 ≤ d):ratOf0 n d = if ratOk ⟨n.tdiv (Int.gcd n d),d.tdiv (Int.gcd n d)⟩ then (⟨n.tdiv (Int.gcd n d),d.tdiv (Int.gcd n d)⟩,true) else (rat0,false):=by
 unfold ratOf0
 rw [if_neg (by omega)]
 simp only [if_neg (show ¬ d < 0 by omega)]
theorem eqPair_rat (x y:Rat):eqPair x.N x.D y.N y.D = decide (x = y):=by
 cases x; cases y; simp only [eqPair,Rat.mk.injEq,Bool.decide_and]; rfl
theorem rowsVal_snoc {m:Model} {ts:List Term} {i:Nat} (h:i < ts.length):rowsRat (values m (ts.take i)) ++ [cRat (value m ts[i])] = rowsRat (values m (ts.take (i + 1))):=by
 have e:ts.take (i + 1) = ts.take i ++ [ts[i]]:=by rw [List.take_add_one,List.getElem?_eq_getElem h]; rfl
 rw [values_map,values_map,e,List.map_append,← rowsRat_app]
 rfl
end Go.Mod
