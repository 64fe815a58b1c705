/-
  What the deciding functions of chapters 3, 5 and 8 compute, in plain Lean: elimination, closures, explanations, decisions. No program is walked here. Plain laws on closures: what joining classes does, that it ends, and what each step is. No program is walked here. Plain laws on ways through the steps of a closure: between two parts there is one way that meets no part twice. No program is walked here. Plain laws on a search through the steps of a closure, breadth first: what it meets, and the way back. No program is walked here. Plain laws on elimination: its rows stay within their bounds. No program is walked here. Plain laws on decisions: each one that is looked at below another one leaves less open. No program is walked here. Plain laws on places among parts. No program is walked here. Plain laws on why two parts are one: what is told step by step. No program is walked here.
-/
import Derived.Test.YtpidddienjoleaaGreatKAE
set_option linter.unusedVariables false
set_option linter.unusedSimpArgs false
namespace Go.Mod
open Go.Eng
set_option maxRecDepth 100000
def rowsN (l:List Nat):List (List D):=l.map fun n:Nat=>[.val (.int .i64 (n:Int))]
theorem rowsN_len (l:List Nat):(rowsN l).length = l.length:=by simp [rowsN]
theorem rowsN_row {l:List Nat} {i:Nat} (h:i < l.length):row (rowsN l) i = [.val (.int .i64 (l[i]:Int))]:=by simp [rowsN,row,List.getD,List.getElem?_eq_getElem h]
theorem rowsN_app (a b:List Nat):rowsN a ++ rowsN b = rowsN (a ++ b):=by simp [rowsN]
theorem rowsN_set {l:List Nat} {i n:Nat}:(rowsN l).set i [.val (.int .i64 (n:Int))] = rowsN (l.set i n):=by simp [rowsN,List.map_set]
attribute [go_sem] rowsN_len rowsN_row
theorem range'_step {i n:Nat} (h:i < n):List.range' i (n - i) = i :: List.range' (i + 1) (n - (i + 1)):=by
 obtain ⟨k,rfl⟩:∃ k,n = i + 1 + k:=⟨n - (i + 1),by omega⟩
 have e1:i + 1 + k - i = k + 1:=by omega
 have e2:i + 1 + k - (i + 1) = k:=by omega
 rw [e1,e2,List.range'_succ]
theorem range'_end {i n:Nat} (h:n ≤ i):List.range' i (n - i) = []:=by
 have e1:n - i = 0:=by omega
 rw [e1]; rfl
theorem whole_N (n:Int):(whole n).N = n:=rfl
theorem whole_D (n:Int):(whole n).D = 1:=rfl
attribute [go_sem] whole_N whole_D
structure URow where
 lin:Lin
 uses:List Int
 deriving DecidableEq
def cU (r:URow):List D:=[.lst (rowsI r.lin.coefs),.val (.int .i64 r.lin.bound),.val (.bool r.lin.strict),.lst (rowsI r.uses)]
def rowsU (l:List URow):List (List D):=l.map cU
theorem rowsU_len (l:List URow):(rowsU l).length = l.length:=by simp [rowsU]
theorem rowsU_row {l:List URow} {i:Nat} (h:i < l.length):row (rowsU l) i = cU l[i]:=by simp [rowsU,row,List.getD,List.getElem?_eq_getElem h]
theorem rowsU_app (a b:List URow):rowsU a ++ rowsU b = rowsU (a ++ b):=by simp [rowsU]
theorem rowsU_nil:rowsU [] = []:=rfl
theorem rowsU_cons (n:URow) (l:List URow):rowsU (n :: l) = cU n :: rowsU l:=rfl
attribute [go_sem] rowsU_len rowsU_row rowsU_nil cU
def coefAt (r:URow) (v:Nat):Int:=r.lin.coefs.getD v 0
def unit1 (n i:Nat):List Int:=(List.replicate n 0).set i 1
def usedLins (ls:List Lin):List URow:=(List.range ls.length).map fun i=>⟨ls.getD i lin0,unit1 ls.length i⟩
def pairG (a b:URow) (v:Nat):Int:=(Int.gcd (coefAt a v) (-(coefAt b v)):Int)
def pairP (a b:URow) (v:Nat):Int:=(coefAt a v).tdiv (pairG a b v)
def pairQ (a b:URow) (v:Nat):Int:=(-(coefAt b v)).tdiv (pairG a b v)
def pairUses (a b:URow) (v:Nat):List Int:=comb (pairQ a b v) (pairP a b v) a.uses b.uses
def pairU (a b:URow) (v:Nat):URow:=⟨(linSum a.lin (pairQ a b v) b.lin (pairP a b v)).1,pairUses a b v⟩
def pairOk (a b:URow) (v:Nat):Bool:=(linSum a.lin (pairQ a b v) b.lin (pairP a b v)).2 && (pairUses a b v).all fun n=>decide (n ≤ 1000000)
def belowU (a:URow) (v:Nat) (rows:List URow):List (URow × URow):=rows.filterMap fun b=>if 0 < coefAt a v ∧ coefAt b v < 0 then some (a,b) else none
def pairsU (all rows:List URow) (v:Nat):List (URow × URow):=rows.flatMap fun a=>belowU a v all
def addPairs (v:Nat):List (URow × URow) → List URow → Option (List URow)
 | [],out=>some out
 | (a,b) :: ps,out=>if pairOk a b v = true ∧ out.length < 200 then addPairs v ps (out ++ [pairU a b v]) else none
def lessU (rows:List URow) (v:Nat):Option (List URow):=addPairs v (pairsU rows rows v) (rows.filter fun r=>decide (coefAt r v = 0))
def restGo (v:Nat):Nat → List Int → List Rat → Rat → Option Rat
 | i,c :: cs,x :: xs,sum=>if i = v then restGo v (i + 1) cs xs sum else if (plus sum (-c) x).2 then restGo v (i + 1) cs xs (plus sum (-c) x).1 else none
 | _,_,_,sum=>some sum
def optR (x:Rat × Bool):Option Rat:=if x.2 then some x.1 else none
def boundBy (l:Lin) (v:Nat) (vals:List Rat):Option Rat:=
 match restGo v 0 l.coefs vals (whole l.bound) with
 | none=>none
 | some sum=>if (ratOf 1 (l.coefs.getD v 0)).2 then optR (ratMul sum (ratOf 1 (l.coefs.getD v 0)).1) else none
def lower (x:Rat):Option Rat → Bool
 | none=>true
 | some h=>ratLess x h
def upper (x:Rat):Option Rat → Bool
 | none=>true
 | some l=>ratLess l x
def endsGo (v:Nat) (vals:List Rat):List URow → Option Rat → Option Rat → Option (Option Rat × Option Rat)
 | [],lo,hi=>some (lo,hi)
 | r :: rs,lo,hi=>if coefAt r v = 0 then endsGo v vals rs lo hi else match boundBy r.lin v vals with
   | none=>none
   | some b=>if 0 < coefAt r v then endsGo v vals rs lo (if lower b hi then some b else hi) else endsGo v vals rs (if upper b lo then some b else lo) hi
def chooseE:Option Rat → Option Rat → Rat × Bool
 | some l,some h=>ratMid l h
 | none,some h=>ratAdd h (whole (-1))
 | some l,none=>ratAdd l (whole 1)
 | none,none=>(whole 0,true)
def valueOf (rows:List URow) (v:Nat) (vals:List Rat):Option Rat:=
 match endsGo v vals rows none none with
 | none=>none
 | some e=>optR (chooseE e.1 e.2)
def backGo:List (List URow) → Nat → List Rat → Option (List Rat)
 | [],_,vals=>some vals
 | rows :: st,v,vals=>match valueOf rows v vals with
   | none=>none
   | some x=>backGo st (v + 1) (vals.set v x)
def sumLin:List Int → List Rat → Rat → Option Rat
 | c :: cs,x :: xs,sum=>if (plus sum c x).2 then sumLin cs xs (plus sum c x).1 else none
 | _,_,sum=>some sum
def isAsg (vals:List Rat):Bool:=decide (vals.length = 4) && vals.all ratOk
def linAt (l:Lin) (vals:List Rat):Option Bool:=if linOk l && isAsg vals then (sumLin l.coefs vals (whole 0)).map fun x=>below x l.bound l.strict else none
def farAll (list:List Lin) (vals:List Rat):Bool:=isSystem list && (isAsg vals && list.all fun l=>decide (linAt l vals = some true))
def zeros4:List Rat:=[whole 0,whole 0,whole 0,whole 0]
structure Far where
 vals:List Rat
 times:List Int
 code:Int
def farEnd (list:List Lin) (s0 s1 s2 s3 rows:List URow):Far:=
 match rows.find? fun r=>linBad r.lin with
 | some r=>if farOk list r.uses then ⟨[],r.uses,1⟩ else ⟨[],[],2⟩
 | none=>match backGo [s0,s1,s2,s3] 0 zeros4 with
   | none=>⟨[],[],2⟩
   | some vals=>if farAll list vals then ⟨vals,[],0⟩ else ⟨[],[],2⟩
def farRun (list:List Lin):Far:=
 if isSystem list then match lessU (usedLins list) 3 with
  | none=>⟨[],[],2⟩
  | some r2=>match lessU r2 2 with
    | none=>⟨[],[],2⟩
    | some r1=>match lessU r1 1 with
      | none=>⟨[],[],2⟩
      | some r0=>match lessU r0 0 with
        | none=>⟨[],[],2⟩
        | some rows=>farEnd list r0 r1 r2 (usedLins list) rows
 else ⟨[],[],3⟩
def placeN (parts:List Term) (t:Term):Nat:=(termIdx parts t).toNat
def cl (class_:List Nat) (i:Nat):Nat:=class_.getD i 0
def joinC (class_:List Nat) (a b:Nat):List Nat:=class_.map fun k=>if k = max (cl class_ a) (cl class_ b) then min (cl class_ a) (cl class_ b) else k
def sameK (parts:List Term) (class_:List Nat) (x y:Term):Bool:=decide (cl class_ (placeN parts x) = cl class_ (placeN parts y))
def sameKs (parts:List Term) (class_:List Nat):List Term → List Term → Bool
 | [],[]=>true
 | x :: xs,y :: ys=>sameK parts class_ x y && sameKs parts class_ xs ys
 | _,_=>false
def alike (parts:List Term) (class_:List Nat) (a b:Nat):Bool:=
 decide (0 < (parts.getD a term0).kids.length) && (decide ((parts.getD a term0).name = (parts.getD b term0).name) && sameKs parts class_ (parts.getD a term0).kids (parts.getD b term0).kids)
def mergeable (parts:List Term) (class_:List Nat) (early late:Nat):Bool:=decide (cl class_ early ≠ cl class_ late) && alike parts class_ early late
def latePairs (from_ n:Nat):List (Nat × Nat):=(List.range' from_ (n - from_)).flatMap fun l=>(List.range' 0 l).map fun e=>(e,l)
def nextPair (parts:List Term) (class_:List Nat):Option (Nat × Nat):=(latePairs 0 parts.length).find? fun p=>mergeable parts class_ p.1 p.2
def givenGo (parts:List Term):Nat → List EqD → List Nat → List Step → List Nat × List Step
 | _,[],class_,steps=>(class_,steps)
 | n,e :: es,class_,steps=>
   if cl class_ (placeN parts e.A) = cl class_ (placeN parts e.B) then givenGo parts (n + 1) es class_ steps
   else givenGo parts (n + 1) es (joinC class_ (placeN parts e.A) (placeN parts e.B)) (steps ++ [⟨placeN parts e.A,placeN parts e.B,n⟩])
def closeGo (parts:List Term):Nat → List Nat → List Step → List Nat × List Step
 | 0,class_,steps=>(class_,steps)
 | f + 1,class_,steps=>match nextPair parts class_ with
   | none=>(class_,steps)
   | some p=>closeGo parts f (joinC class_ p.1 p.2) (steps ++ [⟨p.1,p.2,-1⟩])
def given (parts:List Term) (eqs:List EqD):List Nat × List Step:=givenGo parts 0 eqs (List.range parts.length) []
def closed (parts:List Term) (eqs:List EqD):List Nat × List Step:=closeGo parts (given parts eqs).1.sum (given parts eqs).1 (given parts eqs).2
def classesAt (n:Nat) (steps:List Step) (k:Nat):List Nat:=(steps.take k).foldl (fun c s=>joinC c s.A.toNat s.B.toNat) (List.range n)
structure Edge where
 step:Nat
 back:Bool
 deriving DecidableEq
def stepAt (steps:List Step) (k:Nat):Step:=steps.getD k ⟨0,0,0⟩
def wayF (n:Nat) (steps:List Step):Nat → Nat → Nat → List Edge
 | 0,_,_=>[]
 | k + 1,a,b=>
   let c:=classesAt n steps k
   if cl c a = cl c b then wayF n steps k a b
   else if cl c a = cl c (stepAt steps k).A.toNat then wayF n steps k a (stepAt steps k).A.toNat ++ ⟨k,false⟩ :: wayF n steps k (stepAt steps k).B.toNat b
   else wayF n steps k a (stepAt steps k).B.toNat ++ ⟨k,true⟩ :: wayF n steps k (stepAt steps k).A.toNat b
def edgeWhy (parts:List Term) (steps:List Step) (why:Nat → Nat → Nat → Why) (e:Edge):Why:=
 let s:=stepAt steps e.step
 let w:Why:=if s.given < 0 then .mk 5 0 (.mk (parts.getD s.A.toNat term0).name []) (((parts.getD s.A.toNat term0).kids.zip (parts.getD s.B.toNat term0).kids).map fun p=>why e.step (placeN parts p.1) (placeN parts p.2)) else .mk 2 s.given term0 []
 if e.back then .mk 3 0 term0 [w] else w
def wayWhy (one:Edge → Why):Why → List Edge → Why
 | w,[]=>w
 | w,e :: es=>wayWhy one (.mk 4 0 term0 [w,one e]) es
def whyF (parts:List Term) (steps:List Step):Nat → Nat → Nat → Nat → Why
 | 0,_,_,_=>why0
 | f + 1,n,a,b=>match wayF parts.length steps n a b with
   | []=>.mk 1 0 (parts.getD a term0) []
   | e :: es=>wayWhy (edgeWhy parts steps (whyF parts steps f)) (edgeWhy parts steps (whyF parts steps f) e) es
def explained (parts:List Term) (steps:List Step) (a b:Term):Why:=whyF parts steps (steps.length + 1) steps.length (placeN parts a) (placeN parts b)
def linkStep (nums:List Term) (out:List Nat) (e:EqD):List Nat:=
 if termIdx nums e.A < 0 ∨ termIdx nums e.B < 0 then out else out.map fun k=>if k = cl out (placeN nums e.A) then cl out (placeN nums e.B) else k
def links (nums:List Term) (eqs:List EqD):List Nat:=eqs.foldl (linkStep nums) (List.range nums.length)
def linked (nums:List Term) (lits:List LitD) (i k:Nat):Bool:=decide (cl (links nums (eqsOf lits)) i = cl (links nums (eqsOf lits)) k)
def states (nums:List Term) (lits:List LitD) (i k:Nat):Bool:=lits.any fun l=>!l.no && decide (l.atom = (lessLit (nums.getD i term0) (nums.getD k term0)).atom)
def earlyPairs (from_ n:Nat):List (Nat × Nat):=(List.range' from_ (n - from_)).flatMap fun i=>(List.range' (i + 1) (n - (i + 1))).map fun k=>(i,k)
def firstPair (n:Nat) (p:Nat → Nat → Bool):Option (Nat × Nat):=(earlyPairs 0 n).find? fun q=>p q.1 q.2
def sameCl (terms:List Term) (class_:List Nat) (a b:Term):Bool:=decide (cl class_ (placeN terms a) = cl class_ (placeN terms b))
def clashes (terms:List Term) (class_:List Nat) (l:LitD):Bool:=l.no && (decide (l.atom.kind = 1) && sameCl terms class_ l.atom.A l.atom.B)
def firstAt {α:Type} (p:α → Bool) (l:List α):Option Nat:=(List.range l.length).find? fun i=>match l[i]? with | none=>false | some x=>p x
def valTm (terms nums:List Term) (class_:List Nat) (vals:List Rat) (t:Term):Rat:=if termIdx nums t < 0 then whole (cl class_ (placeN terms t)) else vals.getD (placeN nums t) (whole 0)
def rowVals (terms nums:List Term) (class_:List Nat) (vals:List Rat) (t:Term):Row:=⟨t.name,t.kids.map (valTm terms nums class_ vals),valTm terms nums class_ vals t⟩
def putRow (rows:List Row) (r:Row):List Row:=
 let lo:=rows.takeWhile fun x=>decide (cmpRow x r < 0)
 let hi:=rows.dropWhile fun x=>decide (cmpRow x r < 0)
 match hi with
 | []=>lo ++ [r]
 | x :: xs=>if cmpRow x r = 0 then rows else lo ++ r :: x :: xs
def modelRows (terms nums:List Term) (class_:List Nat) (vals:List Rat):List Row:=terms.foldl (fun rows t=>putRow rows (rowVals terms nums class_ vals t)) []
def modelAll (s:Sig) (m:Model) (lits:List LitD):Bool:=modelOk s m && lits.all fun l=>decide (modelLit s m l = some true)
structure Both where
 model:Model
 case:Case
 code:Int
def case0:Case:=.mk 0 0 why0 [] term0 term0 []
def model0:Model:=⟨[]⟩
def much:Both:=⟨model0,case0,2⟩
def haveC (w:Why) (r:Both):Both:=if r.code = 1 then ⟨model0,.mk 3 0 w [] term0 term0 [r.case],1⟩ else ⟨r.model,case0,r.code⟩
def partC (run:List LitD → Both) (a b:Term):List (List LitD) → List Case → Both
 | [],out=>⟨model0,.mk 4 0 why0 [] a b out,1⟩
 | l :: ls,out=>if (run l).code = 1 then partC run a b ls (out ++ [(run l).case]) else ⟨(run l).model,case0,(run l).code⟩
def runF (s:Sig) (terms nums:List Term):Nat → List LitD → Both
 | 0,_=>much
 | f + 1,lits=>
   let eqs:=eqsOf lits
   let c:=closed terms eqs
   let far:=farRun (linsOf nums lits)
   if 12 < eqs.length then much else
   match firstAt (clashes terms c.1) lits with
   | some n=>⟨model0,.mk 1 n (explained terms c.2 (lits.getD n lit0).atom.A (lits.getD n lit0).atom.B) [] term0 term0 [],1⟩
   | none=>
     if far.code = 1 then ⟨model0,.mk 2 0 why0 far.times term0 term0 [],1⟩ else
     if far.code ≠ 0 then much else
     match firstPair nums.length (fun i k=>!linked nums lits i k && sameCl terms c.1 (nums.getD i term0) (nums.getD k term0)) with
     | some (i,k)=>haveC (explained terms c.2 (nums.getD i term0) (nums.getD k term0)) (runF s terms nums f (lits ++ [eqLit (nums.getD i term0) (nums.getD k term0)]))
     | none=>match firstPair nums.length (fun i k=>!linked nums lits i k && (!states nums lits i k && !states nums lits k i)) with
       | some (i,k)=>partC (runF s terms nums f) (nums.getD i term0) (nums.getD k term0) ((parted (nums.getD i term0) (nums.getD k term0)).map fun l=>lits ++ [l]) []
       | none=>if modelAll s ⟨modelRows terms nums c.1 far.vals⟩ lits then ⟨⟨modelRows terms nums c.1 far.vals⟩,case0,0⟩ else much
def bothRun (s:Sig) (lits:List LitD):Both:=if bothOk s lits then runF s (termsOf lits) (numsOf s lits) 13 lits else ⟨model0,case0,3⟩
end Go.Mod
namespace Go.Mod
open Go.Eng
set_option maxRecDepth 100000
theorem cl_lt {c:List Nat} {i:Nat} (h:i < c.length):cl c i = c[i]:=by rw [cl,List.getD_eq_getElem?_getD,List.getElem?_eq_getElem h]; rfl
theorem cl_mem {c:List Nat} {i:Nat} (h:i < c.length):cl c i ∈ c:=by rw [cl_lt h]; exact List.getElem_mem h
theorem cl_ge {c:List Nat} {i:Nat} (h:c.length ≤ i):cl c i = 0:=by rw [cl,List.getD_eq_getElem?_getD,List.getElem?_eq_none h]; rfl
theorem joinC_len (c:List Nat) (a b:Nat):(joinC c a b).length = c.length:=by simp [joinC]
theorem cl_map {c:List Nat} {f:Nat → Nat} {i:Nat} (h:i < c.length):cl (c.map f) i = f (cl c i):=by
 rw [cl_lt (by simpa using h),cl_lt h,List.getElem_map]
theorem cl_joinC {c:List Nat} {a b i:Nat} (h:i < c.length):cl (joinC c a b) i = if cl c i = max (cl c a) (cl c b) then min (cl c a) (cl c b) else cl c i:=cl_map h
theorem joinC_rel {c:List Nat} {a b i k:Nat} (hi:i < c.length) (hk:k < c.length):cl (joinC c a b) i = cl (joinC c a b) k ↔ (cl c i = cl c k ∨ (cl c i = cl c a ∧ cl c k = cl c b) ∨ (cl c i = cl c b ∧ cl c k = cl c a)):=by
 rw [cl_joinC hi,cl_joinC hk]
 split <;> split <;> omega
theorem sum_le {f:Nat → Nat} (hf:∀ x,f x ≤ x):∀ l:List Nat,(l.map f).sum ≤ l.sum
 | []=>Nat.le_refl _
 | x :: l=>by
   have:=sum_le hf l
   have:=hf x
   simp only [List.map_cons,List.sum_cons]
   omega
theorem sum_lt {f:Nat → Nat} (hf:∀ x,f x ≤ x):∀ {l:List Nat} {x:Nat},x ∈ l → f x < x → (l.map f).sum < l.sum
 | y :: l,x,hx,h=>by
   simp only [List.map_cons,List.sum_cons]
   have h1:=sum_le hf l
   have h2:=hf y
   rcases List.mem_cons.1 hx with e | e
   ·subst e; omega
   ·have:=sum_lt hf e h
    omega
theorem joinC_sum {c:List Nat} {a b:Nat} (ha:a < c.length) (hb:b < c.length) (h:cl c a ≠ cl c b):(joinC c a b).sum < c.sum:=by
 refine sum_lt (x:=max (cl c a) (cl c b)) (fun x=>?_) ?_ ?_
 ·split <;> omega
 ·rcases Nat.le_total (cl c a) (cl c b) with h1 | h1
  ·rw [Nat.max_eq_right h1]; exact cl_mem hb
  ·rw [Nat.max_eq_left h1]; exact cl_mem ha
 ·rw [if_pos rfl]; omega
theorem mem_latePairs {s n:Nat} {p:Nat × Nat}:p ∈ latePairs s n ↔ p.1 < p.2 ∧ s ≤ p.2 ∧ p.2 < n:=by
 obtain ⟨e,l⟩:=p
 simp only [latePairs,List.mem_flatMap,List.mem_map,List.mem_range'_1,Prod.mk.injEq]
 constructor
 ·rintro ⟨l',h1,e',h2,rfl,rfl⟩; omega
 ·rintro ⟨h1,h2,h3⟩
  exact ⟨l,by omega,e,by omega,rfl,rfl⟩
theorem latePairs_step {l n:Nat} (h:l < n):latePairs l n = (List.range' 0 (l - 0)).map (fun e=>(e,l)) ++ latePairs (l + 1) n:=by
 unfold latePairs
 rw [range'_step h]
 rfl
theorem latePairs_end {l n:Nat} (h:n ≤ l):latePairs l n = []:=by
 unfold latePairs
 rw [range'_end h]
 rfl
theorem nextPair_some {parts:List Term} {c:List Nat} {p:Nat × Nat} (h:nextPair parts c = some p):p.1 < p.2 ∧ p.2 < parts.length ∧ cl c p.1 ≠ cl c p.2 ∧ alike parts c p.1 p.2 = true:=by
 have h1:=List.find?_some h
 have h2:=mem_latePairs.1 (List.mem_of_find?_eq_some h)
 simp only [mergeable,Bool.and_eq_true,decide_eq_true_eq] at h1
 exact ⟨h2.1,h2.2.2,h1.1,h1.2⟩
theorem le_sum {x:Nat}:∀ {l:List Nat},x ∈ l → x ≤ l.sum
 | y :: l,h=>by
   simp only [List.sum_cons]
   rcases List.mem_cons.1 h with e | e
   ·omega
   ·have:=le_sum e; omega
theorem closeGo_stop {parts:List Term} {f:Nat} {c:List Nat} {steps:List Step} (h:nextPair parts c = none):closeGo parts f c steps = (c,steps):=by
 cases f with
 | zero=>rfl
 | succ f=>simp only [closeGo,h]
theorem closeGo_step {parts:List Term} {f:Nat} {c:List Nat} {steps:List Step} {p:Nat × Nat} (hs:c.sum ≤ f) (hc:c.length = parts.length) (h:nextPair parts c = some p) :
 ∃ f',f = f' + 1 ∧ closeGo parts f c steps = closeGo parts f' (joinC c p.1 p.2) (steps ++ [⟨p.1,p.2,-1⟩]) ∧ (joinC c p.1 p.2).sum ≤ f':=by
 obtain ⟨h1,h2,h3,h4⟩:=nextPair_some h
 have hd:=joinC_sum (c:=c) (a:=p.1) (b:=p.2) (by omega) (by omega) h3
 obtain ⟨f',rfl⟩:∃ f',f = f' + 1:=⟨f - 1,by omega⟩
 exact ⟨f',rfl,by simp only [closeGo,h],by omega⟩
structure StepOk (parts:List Term) (eqs:List EqD) (c:List Nat) (s:Step):Prop where
 a0:0 ≤ s.A
 a1:s.A.toNat < parts.length
 b0:0 ≤ s.B
 b1:s.B.toNat < parts.length
 ne:cl c s.A.toNat ≠ cl c s.B.toNat
 how:(s.given = -1 ∧ alike parts c s.A.toNat s.B.toNat = true) ∨ (∃ n:Nat,s.given = n ∧ ∃ e,eqs[n]? = some e ∧ s.A = placeN parts e.A ∧ s.B = placeN parts e.B)
def StepsOk (parts:List Term) (eqs:List EqD) (steps:List Step):Prop:=∀ k s,steps[k]? = some s → StepOk parts eqs (classesAt parts.length steps k) s
theorem classesAt_app {n k:Nat} {steps more:List Step} (h:k ≤ steps.length):classesAt n (steps ++ more) k = classesAt n steps k:=by
 rw [classesAt,classesAt,List.take_append_of_le_length h]
theorem classesAt_len (n:Nat) (steps:List Step) (k:Nat):(classesAt n steps k).length = n:=by
 unfold classesAt
 have:∀ (l:List Step) (c:List Nat),(l.foldl (fun c s=>joinC c s.A.toNat s.B.toNat) c).length = c.length:=by
  intro l
  induction l with
  | nil=>intro c; rfl
  | cons s l ih=>intro c; rw [List.foldl_cons,ih,joinC_len]
 rw [this,List.length_range]
theorem classesAt_succ {n k:Nat} {steps:List Step} {s:Step} (h:steps[k]? = some s):classesAt n steps (k + 1) = joinC (classesAt n steps k) s.A.toNat s.B.toNat:=by
 obtain ⟨hk,rfl⟩:=List.getElem?_eq_some_iff.1 h
 rw [classesAt,List.take_add_one,List.getElem?_eq_getElem hk,List.foldl_append]
 rfl
theorem stepsOk_snoc {parts:List Term} {eqs:List EqD} {steps:List Step} {s:Step} (h:StepsOk parts eqs steps) (hs:StepOk parts eqs (classesAt parts.length steps steps.length) s):StepsOk parts eqs (steps ++ [s]):=by
 intro k t ht
 rcases Nat.lt_trichotomy k steps.length with h1 | h1 | h1
 ·rw [List.getElem?_append_left h1] at ht
  rw [classesAt_app (by omega)]
  exact h k t ht
 ·subst h1
  rw [List.getElem?_append_right (Nat.le_refl _)] at ht
  simp only [Nat.sub_self,List.getElem?_cons_zero,Option.some.injEq] at ht
  rw [classesAt_app (Nat.le_refl _),← ht]
  exact hs
 ·rw [List.getElem?_eq_none (by simp; omega)] at ht
  cases ht
theorem classesAt_snoc {n:Nat} {steps:List Step} {s:Step}:classesAt n (steps ++ [s]) (steps ++ [s]).length = joinC (classesAt n steps steps.length) s.A.toNat s.B.toNat:=by
 rw [List.length_append,List.length_singleton,classesAt_succ (s:=s) (by simp),classesAt_app (Nat.le_refl _)]
def Kept (parts:List Term) (eqs:List EqD) (x:List Nat × List Step):Prop:=StepsOk parts eqs x.2 ∧ x.1 = classesAt parts.length x.2 x.2.length
theorem kept_len {parts:List Term} {eqs:List EqD} {x:List Nat × List Step} (h:Kept parts eqs x):x.1.length = parts.length:=by rw [h.2,classesAt_len]
theorem kept_snoc {parts:List Term} {eqs:List EqD} {x:List Nat × List Step} {s:Step} (h:Kept parts eqs x) (hs:StepOk parts eqs x.1 s):Kept parts eqs (joinC x.1 s.A.toNat s.B.toNat,x.2 ++ [s]):=
 ⟨stepsOk_snoc h.1 (h.2 ▸ hs),by rw [classesAt_snoc,← h.2]⟩
theorem givenGo_kept {parts:List Term} {all:List EqD} (hin:∀ e ∈ all,e.A ∈ parts ∧ e.B ∈ parts):∀ (eqs:List EqD) (n:Nat) (c:List Nat) (steps:List Step),all.drop n = eqs → Kept parts all (c,steps) → Kept parts all (givenGo parts n eqs c steps)
 | [],_,_,_,_,h=>h
 | e :: es,n,c,steps,hd,h=>by
   have hn:all[n]? = some e:=by
    have:=congrArg (·[0]?) hd
    simpa using this
   have hd2:all.drop (n + 1) = es:=by
    have:=congrArg List.tail hd
    simpa [List.tail_drop] using this
   obtain ⟨hA,hB⟩:=hin e (List.mem_of_getElem? hn)
   rw [givenGo]
   split
   ·exact givenGo_kept hin es (n + 1) c steps hd2 h
   ·rename_i hne
    exact givenGo_kept hin es (n + 1) _ _ hd2 (kept_snoc (s:=⟨placeN parts e.A,placeN parts e.B,n⟩) h ⟨Int.natCast_nonneg _,by rw [Int.toNat_natCast]; exact termIdx_lt hA,Int.natCast_nonneg _,by rw [Int.toNat_natCast]; exact termIdx_lt hB,by simpa using hne,.inr ⟨n,rfl,e,hn,rfl,rfl⟩⟩)
theorem closeGo_kept {parts:List Term} {all:List EqD}:∀ (f:Nat) (c:List Nat) (steps:List Step),Kept parts all (c,steps) → Kept parts all (closeGo parts f c steps)
 | 0,_,_,h=>h
 | f + 1,c,steps,h=>by
   rw [closeGo]
   split
   ·exact h
   ·rename_i p hp
    obtain ⟨h1,h2,h3,h4⟩:=nextPair_some hp
    exact closeGo_kept f _ _ (kept_snoc (s:=⟨p.1,p.2,-1⟩) h ⟨Int.natCast_nonneg _,by simp; omega,Int.natCast_nonneg _,by simpa using h2,by simpa using h3,.inl ⟨rfl,by simpa using h4⟩⟩)
theorem given_kept {parts:List Term} {eqs:List EqD} (hin:∀ e ∈ eqs,e.A ∈ parts ∧ e.B ∈ parts):Kept parts eqs (given parts eqs):=
 givenGo_kept hin eqs 0 _ _ rfl ⟨fun k s h=>by simp at h,rfl⟩
theorem closed_kept {parts:List Term} {eqs:List EqD} (hin:∀ e ∈ eqs,e.A ∈ parts ∧ e.B ∈ parts):Kept parts eqs (closed parts eqs):=closeGo_kept _ _ _ (given_kept hin)
theorem kept_steps {parts:List Term} {eqs:List EqD} {x:List Nat × List Step} (h:Kept parts eqs x):∀ k,k ≤ x.2.length → (classesAt parts.length x.2 k).sum + k ≤ (List.range parts.length).sum:=by
 intro k
 induction k with
 | zero=>intro _; exact Nat.le_of_eq (by simp [classesAt])
 | succ k ih=>
   intro hk
   have hs:x.2[k]? = some x.2[k]:=List.getElem?_eq_getElem (by omega)
   have h1:=ih (by omega)
   have h2:=h.1 k _ hs
   have h3:=joinC_sum (c:=classesAt parts.length x.2 k) (by rw [classesAt_len]; exact h2.a1) (by rw [classesAt_len]; exact h2.b1) h2.ne
   rw [classesAt_succ hs]
   omega
end Go.Mod
namespace Go.Mod
open Go.Eng
set_option maxRecDepth 100000
def vA (steps:List Step) (k:Nat):Nat:=(stepAt steps k).A.toNat
def vB (steps:List Step) (k:Nat):Nat:=(stepAt steps k).B.toNat
def startV (steps:List Step) (e:Edge):Nat:=if e.back then vB steps e.step else vA steps e.step
def endV (steps:List Step) (e:Edge):Nat:=if e.back then vA steps e.step else vB steps e.step
def Walk (steps:List Step):Nat → List Edge → Nat → Prop
 | a,[],b=>a = b
 | a,e :: es,b=>startV steps e = a ∧ Walk steps (endV steps e) es b
def Within (k:Nat) (es:List Edge):Prop:=∀ e ∈ es,e.step < k
def verts (steps:List Step) (a:Nat) (es:List Edge):List Nat:=a :: es.map (endV steps)
theorem walk_app {steps:List Step}:∀ {p q:List Edge} {a b:Nat},Walk steps a (p ++ q) b ↔ ∃ m,Walk steps a p m ∧ Walk steps m q b
 | [],q,a,b=>by simp [Walk]
 | e :: p,q,a,b=>by
   simp only [List.cons_append,Walk,walk_app (p:=p)]
   constructor
   ·rintro ⟨h1,m,h2,h3⟩; exact ⟨m,⟨h1,h2⟩,h3⟩
   ·rintro ⟨m,⟨h1,h2⟩,h3⟩; exact ⟨h1,m,h2,h3⟩
theorem walk_end {steps:List Step}:∀ {p:List Edge} {a b:Nat},Walk steps a p b → b ∈ verts steps a p
 | [],a,b,h=>by simp [Walk] at h; simp [verts,h]
 | e :: p,a,b,h=>by
   have:=walk_end h.2
   simp only [verts,List.map_cons,List.mem_cons] at this ⊢
   exact .inr this
section
variable {parts:List Term} {eqs:List EqD} {steps:List Step} (hok:StepsOk parts eqs steps)
include hok
theorem step_ok {k:Nat} (h:k < steps.length):StepOk parts eqs (classesAt parts.length steps k) (stepAt steps k):=by
 have e:=List.getElem?_eq_getElem h
 have:=hok k _ e
 rw [stepAt,List.getD_eq_getElem?_getD,e]
 exact this
theorem vA_lt {k:Nat} (h:k < steps.length):vA steps k < parts.length:=(step_ok hok h).a1
theorem vB_lt {k:Nat} (h:k < steps.length):vB steps k < parts.length:=(step_ok hok h).b1
omit hok in
theorem at_succ {k:Nat} (h:k < steps.length):classesAt parts.length steps (k + 1) = joinC (classesAt parts.length steps k) (vA steps k) (vB steps k):=by
 rw [classesAt_succ (List.getElem?_eq_getElem h),vA,vB,stepAt,List.getD_eq_getElem?_getD,List.getElem?_eq_getElem h]
 rfl
omit hok in
theorem at_rel {k i j:Nat} (h:k < steps.length) (hi:i < parts.length) (hj:j < parts.length):cl (classesAt parts.length steps (k + 1)) i = cl (classesAt parts.length steps (k + 1)) j ↔
 (cl (classesAt parts.length steps k) i = cl (classesAt parts.length steps k) j ∨ (cl (classesAt parts.length steps k) i = cl (classesAt parts.length steps k) (vA steps k) ∧ cl (classesAt parts.length steps k) j = cl (classesAt parts.length steps k) (vB steps k)) ∨ (cl (classesAt parts.length steps k) i = cl (classesAt parts.length steps k) (vB steps k) ∧ cl (classesAt parts.length steps k) j = cl (classesAt parts.length steps k) (vA steps k))):=by
 rw [at_succ h]
 exact joinC_rel (by rw [classesAt_len]; exact hi) (by rw [classesAt_len]; exact hj)
theorem step_same:∀ {k:Nat},k ≤ steps.length → ∀ {j:Nat},j < k → cl (classesAt parts.length steps k) (vA steps j) = cl (classesAt parts.length steps k) (vB steps j)
 | 0,_,j,h=>by omega
 | k + 1,hk,j,h=>by
   rw [at_rel (by omega) (vA_lt hok (by omega)) (vB_lt hok (by omega))]
   rcases Nat.lt_or_ge j k with h1 | h1
   ·exact .inl (step_same (by omega) h1)
   ·obtain rfl:j = k:=by omega
    exact .inr (.inl ⟨rfl,rfl⟩)
theorem endV_lt {e:Edge} (h:e.step < steps.length):endV steps e < parts.length:=by
 unfold endV
 split
 ·exact vA_lt hok h
 ·exact vB_lt hok h
theorem edge_same {k:Nat} (hk:k ≤ steps.length) {e:Edge} (h:e.step < k):cl (classesAt parts.length steps k) (startV steps e) = cl (classesAt parts.length steps k) (endV steps e):=by
 have:=step_same hok hk h
 unfold startV endV
 cases e.back
 ·simpa using this
 ·simpa using this.symm
theorem walk_same {k:Nat} (hk:k ≤ steps.length):∀ {es:List Edge} {a b:Nat},Within k es → Walk steps a es b → cl (classesAt parts.length steps k) a = cl (classesAt parts.length steps k) b
 | [],a,b,_,h=>by simp only [Walk] at h; rw [h]
 | e :: es,a,b,hw,h=>by
   rw [← h.1,edge_same hok hk (hw e (by simp))]
   exact walk_same hk (fun x hx=>hw x (List.mem_cons_of_mem _ hx)) h.2
theorem walk_lt {k:Nat} (hk:k ≤ steps.length):∀ {es:List Edge} {a b:Nat},Within k es → Walk steps a es b → a < parts.length → b < parts.length
 | [],a,b,_,h,ha=>by simp only [Walk] at h; omega
 | e :: es,a,b,hw,h,ha=>walk_lt hk (fun x hx=>hw x (List.mem_cons_of_mem _ hx)) h.2 (endV_lt hok (by have:=hw e (by simp); omega))
theorem verts_same {k:Nat} (hk:k ≤ steps.length):∀ {es:List Edge} {a b:Nat},Within k es → Walk steps a es b → ∀ v ∈ verts steps a es,cl (classesAt parts.length steps k) v = cl (classesAt parts.length steps k) a
 | [],a,b,_,h,v,hv=>by simp [verts] at hv; rw [hv]
 | e :: es,a,b,hw,h,v,hv=>by
   simp only [verts,List.map_cons,List.mem_cons] at hv
   rcases hv with e1 | hv
   ·rw [e1]
   ·rw [verts_same hk (fun x hx=>hw x (List.mem_cons_of_mem _ hx)) h.2 v (by simpa [verts] using hv),← h.1]
    exact (edge_same hok hk (hw e (by simp))).symm
theorem way_unique:∀ {k:Nat},k ≤ steps.length → ∀ {es:List Edge} {a b:Nat},a < parts.length → Within k es → Walk steps a es b → (verts steps a es).Nodup → es = wayF parts.length steps k a b
 | 0,_,es,a,b,_,hw,h,_=>by
   cases es with
   | nil=>rfl
   | cons e es=>exact absurd (hw e (by simp)) (by omega)
 | k + 1,hk,es,a,b,ha,hw,h,hn=>by
   have hk':k ≤ steps.length:=by omega
   have hb:=walk_lt hok hk hw h ha
   rcases Classical.em (Within k es) with hin | hin
   ·have hs:=walk_same hok hk' hin h
    rw [wayF,if_pos hs]
    exact way_unique hk' ha hin h hn
   ·-- the first edge of the last step
    have hsplit:∃ p e q,es = p ++ e :: q ∧ Within k p ∧ e.step = k:=by
     clear h hn hb
     induction es with
     | nil=>exact absurd (fun e he=>by simp at he) hin
     | cons e es ih=>
       have he:=hw e (by simp)
       rcases Nat.lt_or_ge e.step k with h1 | h1
       ·obtain ⟨p,x,q,e1,e2,e3⟩:=ih (fun x hx=>hw x (List.mem_cons_of_mem _ hx)) (fun hin2=>hin fun x hx=>by
         rcases List.mem_cons.1 hx with e4 | e4
         ·rw [e4]; exact h1
         ·exact hin2 x e4)
        refine ⟨e :: p,x,q,by rw [e1]; rfl,fun y hy=>?_,e3⟩
        rcases List.mem_cons.1 hy with e4 | e4
        ·rw [e4]; exact h1
        ·exact e2 y e4
       ·exact ⟨[],e,es,rfl,fun x hx=>by simp at hx,by omega⟩
    obtain ⟨p,e,q,rfl,hp,hek⟩:=hsplit
    obtain ⟨m,w1,w2⟩:=walk_app.1 h
    obtain ⟨w3,w4⟩:=w2
    subst w3
    have hve:verts steps a (p ++ e :: q) = verts steps a p ++ verts steps (endV steps e) q:=by simp [verts]
    rw [hve] at hn
    obtain ⟨n1,n2,n3⟩:=List.nodup_append.1 hn
    have hq:Within k q:=by
     intro x hx
     have hx1:=hw x (by simp [hx])
     rcases Nat.lt_or_ge x.step k with h1 | h1
     ·exact h1
     ·exfalso
      have hxk:x.step = k:=by omega
      obtain ⟨q1,q2,rfl⟩:=List.append_of_mem hx
      obtain ⟨m2,u1,u2⟩:=walk_app.1 w4
      obtain ⟨u3,u4⟩:=u2
      have hs1:startV steps e ∈ verts steps a p:=walk_end w1
      have hne:endV steps x ≠ endV steps e:=by
       intro he
       have:(endV steps e :: (q1.map (endV steps) ++ endV steps x :: q2.map (endV steps))).Nodup:=by simpa [verts] using n2
       have:=(List.nodup_cons.1 this).1
       exact this (by simp [he])
      have hne2:endV steps x ≠ startV steps e:=by
       intro he
       exact n3 _ hs1 _ (by simp [verts]:endV steps x ∈ verts steps (endV steps e) (q1 ++ x :: q2)) he.symm
      unfold endV at hne hne2
      unfold startV at hne2
      rw [hxk,hek] at hne hne2
      cases h5:x.back <;> cases h6:e.back <;> simp [h5,h6] at hne hne2
    have hlt:startV steps e < parts.length:=walk_lt hok hk' hp w1 ha
    have hlt2:endV steps e < parts.length:=endV_lt hok (by omega)
    have hok2:=(step_ok hok (k:=k) (by omega)).ne
    have i1:=way_unique hk' ha hp w1 n1
    have i2:=way_unique hk' hlt2 hq w4 n2
    have s1:=walk_same hok hk' hp w1
    have s2:=walk_same hok hk' hq w4
    rw [wayF]
    unfold startV at i1 s1
    unfold endV at i2 s2
    rw [hek] at i1 i2 s1 s2
    obtain ⟨st,bk⟩:=e
    simp only at hek
    subst hek
    cases bk
    ·simp only [Bool.false_eq_true,if_false,vA,vB] at i1 i2 s1 s2
     rw [if_neg (by rw [s1,← s2]; exact hok2),if_pos s1,← i1,← i2]
    ·simp only [if_true,vA,vB] at i1 i2 s1 s2
     rw [if_neg (by rw [s1,← s2]; exact fun h=>hok2 h.symm),if_neg (by rw [s1]; exact fun h=>hok2 h.symm),← i1,← i2]
theorem way_is:∀ {k:Nat},k ≤ steps.length → ∀ {a b:Nat},a < parts.length → b < parts.length → cl (classesAt parts.length steps k) a = cl (classesAt parts.length steps k) b →
 Within k (wayF parts.length steps k a b) ∧ Walk steps a (wayF parts.length steps k a b) b ∧ (verts steps a (wayF parts.length steps k a b)).Nodup
 | 0,_,a,b,ha,hb,h=>by
   have e:∀ i,i < parts.length → cl (classesAt parts.length steps 0) i = i:=fun i hi=>by
    rw [cl_lt (by rw [classesAt_len]; exact hi)]
    simp [classesAt]
   rw [e a ha,e b hb] at h
   subst h
   exact ⟨fun x hx=>by simp [wayF] at hx,rfl,by simp [wayF,verts]⟩
 | k + 1,hk,a,b,ha,hb,h=>by
   have hk':k ≤ steps.length:=by omega
   have up:∀ {es:List Edge},Within k es → Within (k + 1) es:=fun hw e he=>Nat.lt_succ_of_lt (hw e he)
   rw [at_rel (by omega) ha hb] at h
   have hA:=vA_lt hok (k:=k) (by omega)
   have hB:=vB_lt hok (k:=k) (by omega)
   have hne:=(step_ok hok (k:=k) (by omega)).ne
   rw [wayF]
   rcases Classical.em (cl (classesAt parts.length steps k) a = cl (classesAt parts.length steps k) b) with h1 | h1
   ·rw [if_pos h1]
    obtain ⟨i1,i2,i3⟩:=way_is hk' ha hb h1
    exact ⟨up i1,i2,i3⟩
   ·rw [if_neg h1]
    rcases h with h | ⟨h,h'⟩ | ⟨h,h'⟩
    ·exact (h1 h).elim
    ·rw [if_pos (show _ = cl _ (stepAt steps k).A.toNat from h)]
     obtain ⟨i1,i2,i3⟩:=way_is hk' ha hA h
     obtain ⟨j1,j2,j3⟩:=way_is hk' hB hb h'.symm
     refine ⟨?_,walk_app.2 ⟨_,i2,rfl,j2⟩,?_⟩
     ·intro x hx
      rcases List.mem_append.1 hx with e | e
      ·exact up i1 x e
      ·rcases List.mem_cons.1 e with e | e
       ·rw [e]; exact Nat.lt_succ_self k
       ·exact up j1 x e
     ·have hve:verts steps a (wayF parts.length steps k a (vA steps k) ++ ⟨k,false⟩ :: wayF parts.length steps k (vB steps k) b) = verts steps a (wayF parts.length steps k a (vA steps k)) ++ verts steps (vB steps k) (wayF parts.length steps k (vB steps k) b):=by simp [verts,endV]
      refine hve ▸ List.nodup_append.2 ⟨i3,j3,fun x hx y hy e=>?_⟩
      have s1:=verts_same hok hk' i1 i2 x hx
      have s2:=verts_same hok hk' j1 j2 y hy
      rw [← e,s1] at s2
      exact hne (h.symm.trans s2)
    ·have h2:¬ cl (classesAt parts.length steps k) a = cl (classesAt parts.length steps k) (stepAt steps k).A.toNat:=fun h3=>hne (h3.symm.trans h)
     rw [if_neg h2]
     obtain ⟨i1,i2,i3⟩:=way_is hk' ha hB h
     obtain ⟨j1,j2,j3⟩:=way_is hk' hA hb h'.symm
     refine ⟨?_,walk_app.2 ⟨_,i2,rfl,j2⟩,?_⟩
     ·intro x hx
      rcases List.mem_append.1 hx with e | e
      ·exact up i1 x e
      ·rcases List.mem_cons.1 e with e | e
       ·rw [e]; exact Nat.lt_succ_self k
       ·exact up j1 x e
     ·have hve:verts steps a (wayF parts.length steps k a (vB steps k) ++ ⟨k,true⟩ :: wayF parts.length steps k (vA steps k) b) = verts steps a (wayF parts.length steps k a (vB steps k)) ++ verts steps (vA steps k) (wayF parts.length steps k (vA steps k) b):=by simp [verts,endV]
      refine hve ▸ List.nodup_append.2 ⟨i3,j3,fun x hx y hy e=>?_⟩
      have s1:=verts_same hok hk' i1 i2 x hx
      have s2:=verts_same hok hk' j1 j2 y hy
      rw [← e,s1] at s2
      exact h2 s2
end
end Go.Mod
namespace Go.Mod
open Go.Eng
set_option maxRecDepth 100000
def fsts (disc:List (Nat × Edge)):List Nat:=disc.map Prod.fst
structure Met (N:Nat) (steps:List Step) (n from_:Nat) (disc:List (Nat × Edge)):Prop where
 head:(fsts disc)[0]? = some from_
 nod:(fsts disc).Nodup
 lt:∀ v ∈ fsts disc,v < N
 by_:∀ (j:Nat) (v:Nat) (e:Edge),disc[j]? = some (v,e) → 0 < j → e.step < n ∧ endV steps e = v ∧ ∃ i,i < j ∧ (fsts disc)[i]? = some (startV steps e)
def Seen (steps:List Step) (n:Nat) (disc:List (Nat × Edge)) (v:Nat):Prop:=∀ k,k < n → (vA steps k = v → vB steps k ∈ fsts disc) ∧ (vB steps k = v → vA steps k ∈ fsts disc)
def Through (steps:List Step) (n:Nat) (disc:List (Nat × Edge)) (i:Nat):Prop:=∀ j v,j < i → (fsts disc)[j]? = some v → Seen steps n disc v
theorem nodup_bound {N:Nat}:∀ {l:List Nat},l.Nodup → (∀ v ∈ l,v < N) → l.length ≤ N:=by
 intro l h1 h2
 have:=(List.nodup_range (n:=N))
 have hs:l.length ≤ (List.range N).length:=List.Nodup.length_le_of_subset h1 fun v hv=>List.mem_range.2 (h2 v hv)
 simpa using hs
theorem fsts_len (disc:List (Nat × Edge)):(fsts disc).length = disc.length:=by simp [fsts]
theorem fsts_app (a b:List (Nat × Edge)):fsts (a ++ b) = fsts a ++ fsts b:=by simp [fsts]
theorem met_len {N:Nat} {steps:List Step} {n f:Nat} {disc:List (Nat × Edge)} (h:Met N steps n f disc):disc.length ≤ N:=by
 rw [← fsts_len]
 exact nodup_bound h.nod h.lt
theorem met_start {N:Nat} {steps:List Step} {n f:Nat} (hf:f < N) (e:Edge):Met N steps n f [(f,e)]:=
 ⟨rfl,by simp [fsts],fun v hv=>by simp [fsts] at hv; omega,fun j v e h hj=>by
  cases j with
  | zero=>omega
  | succ j=>simp at h⟩
theorem met_add {N:Nat} {steps:List Step} {n f:Nat} {disc:List (Nat × Edge)} (h:Met N steps n f disc) {e:Edge} {i v:Nat} (he:e.step < n) (hi:(fsts disc)[i]? = some v) (hs:startV steps e = v) (hn:endV steps e ∉ fsts disc) (hlt:endV steps e < N) :
 Met N steps n f (disc ++ [(endV steps e,e)]):=by
 have hl:=fsts_len disc
 have hi2:i < disc.length:=by rw [← hl]; exact (List.getElem?_eq_some_iff.1 hi).1
 refine ⟨?_,?_,?_,?_⟩
 ·rw [fsts_app,List.getElem?_append_left (by omega)]; exact h.head
 ·rw [fsts_app]
  refine List.nodup_append.2 ⟨h.nod,by simp [fsts],fun x hx y hy e1=>?_⟩
  simp only [fsts,List.map_cons,List.map_nil,List.mem_cons,List.not_mem_nil,or_false] at hy
  rw [e1,hy] at hx
  exact hn hx
 ·intro x hx
  rw [fsts_app] at hx
  rcases List.mem_append.1 hx with hx | hx
  ·exact h.lt x hx
  ·simp only [fsts,List.map_cons,List.map_nil,List.mem_cons,List.not_mem_nil,or_false] at hx
   omega
 ·intro j w x hx hj
  rcases Nat.lt_trichotomy j disc.length with h1 | h1 | h1
  ·rw [List.getElem?_append_left h1] at hx
   obtain ⟨a1,a2,k,a3,a4⟩:=h.by_ j w x hx hj
   exact ⟨a1,a2,k,a3,by rw [fsts_app,List.getElem?_append_left (by omega)]; exact a4⟩
  ·subst h1
   rw [List.getElem?_append_right (Nat.le_refl _)] at hx
   simp only [Nat.sub_self,List.getElem?_cons_zero,Option.some.injEq,Prod.mk.injEq] at hx
   obtain ⟨rfl,rfl⟩:=hx
   exact ⟨he,rfl,i,hi2,by rw [fsts_app,List.getElem?_append_left (by omega),hi,hs]⟩
  ·rw [List.getElem?_eq_none (by simp; omega)] at hx
   cases hx
theorem seen_mono {steps:List Step} {n:Nat} {a b:List (Nat × Edge)} {v:Nat} (h:Seen steps n a v):Seen steps n (a ++ b) v:=fun k hk=>by
 rw [fsts_app]
 exact ⟨fun e=>List.mem_append_left _ ((h k hk).1 e),fun e=>List.mem_append_left _ ((h k hk).2 e)⟩
theorem through_mono {steps:List Step} {n:Nat} {a b:List (Nat × Edge)} {i:Nat} (hi:i ≤ a.length) (h:Through steps n a i):Through steps n (a ++ b) i:=fun j v hj hv=>by
 rw [fsts_app,List.getElem?_append_left (by rw [fsts_len]; omega)] at hv
 exact seen_mono (h j v hj hv)
theorem through_succ {steps:List Step} {n:Nat} {disc:List (Nat × Edge)} {i v:Nat} (h:Through steps n disc i) (hv:(fsts disc)[i]? = some v) (hs:Seen steps n disc v):Through steps n disc (i + 1):=fun j w hj hw=>by
 rcases Nat.lt_or_ge j i with h1 | h1
 ·exact h j w h1 hw
 ·obtain rfl:j = i:=by omega
  rw [hv] at hw
  obtain rfl:=Option.some.inj hw
  exact hs
theorem through_walk {steps:List Step} {n:Nat} {disc:List (Nat × Edge)} (h:Through steps n disc disc.length):∀ {es:List Edge} {a b:Nat},Within n es → Walk steps a es b → a ∈ fsts disc → b ∈ fsts disc
 | [],a,b,_,hw,ha=>by simp only [Walk] at hw; rw [← hw]; exact ha
 | e :: es,a,b,hi,hw,ha=>by
   obtain ⟨j,hj,hj2⟩:=List.mem_iff_getElem.1 ha
   have hs:=h j a (by rw [← fsts_len]; exact hj) (by rw [List.getElem?_eq_getElem hj,hj2])
   have he:=hi e (by simp)
   refine through_walk h (fun x hx=>hi x (List.mem_cons_of_mem _ hx)) hw.2 ?_
   have h1:=hw.1
   unfold startV at h1
   unfold endV
   cases hb:e.back
   ·rw [hb] at h1
    simp only [Bool.false_eq_true,if_false] at h1 ⊢
    exact (hs e.step he).1 h1
   ·rw [hb] at h1
    simp only [if_true] at h1 ⊢
    exact (hs e.step he).2 h1
structure Back (steps:List Step) (n to:Nat) (disc:List (Nat × Edge)) (j t:Nat) (out:List Edge):Prop where
 at_:(fsts disc)[j]? = some t
 in_:Within n out.reverse
 walk:Walk steps t out.reverse to
 nod:(verts steps t out.reverse).Nodup
 far:∀ w ∈ out.reverse.map (endV steps),∃ i,j < i ∧ (fsts disc)[i]? = some w
theorem back_start {steps:List Step} {n to:Nat} {disc:List (Nat × Edge)} {j:Nat} (h:(fsts disc)[j]? = some to):Back steps n to disc j to []:=
 ⟨h,fun e he=>by simp at he,rfl,by simp [verts],fun w hw=>by simp at hw⟩
theorem nodup_at {l:List Nat} (h:l.Nodup) {i j v:Nat} (hi:l[i]? = some v) (hj:l[j]? = some v):i = j:=by
 obtain ⟨h1,h2⟩:=List.getElem?_eq_some_iff.1 hi
 obtain ⟨h3,h4⟩:=List.getElem?_eq_some_iff.1 hj
 exact (List.getElem_inj h).1 (h2.trans h4.symm)
theorem back_step {N:Nat} {steps:List Step} {n f to:Nat} {disc:List (Nat × Edge)} {j t:Nat} {out:List Edge} {e:Edge} (hm:Met N steps n f disc) (h:Back steps n to disc j t out) (he:disc[j]? = some (t,e)) (hj:0 < j) :
 ∃ i,i < j ∧ Back steps n to disc i (startV steps e) (out ++ [e]):=by
 obtain ⟨h1,h2,i,h3,h4⟩:=hm.by_ j t e he hj
 have far:∀ w ∈ (out ++ [e]).reverse.map (endV steps),∃ k,i < k ∧ (fsts disc)[k]? = some w:=by
  intro w hw
  simp only [List.reverse_append,List.reverse_cons,List.reverse_nil,List.nil_append,List.cons_append,List.map_cons,List.mem_cons] at hw
  rcases hw with e1 | hw
  ·exact ⟨j,h3,by rw [e1,h2]; exact h.at_⟩
  ·obtain ⟨k,k1,k2⟩:=h.far w hw
   exact ⟨k,by omega,k2⟩
 refine ⟨i,h3,h4,?_,?_,?_,far⟩
 ·intro x hx
  simp only [List.reverse_append,List.reverse_cons,List.reverse_nil,List.nil_append,List.cons_append,List.mem_cons] at hx
  rcases hx with e1 | hx
  ·rw [e1]; exact h1
  ·exact h.in_ x hx
 ·simp only [List.reverse_append,List.reverse_cons,List.reverse_nil,List.nil_append,List.cons_append,Walk,true_and]
  rw [h2]
  exact h.walk
 ·refine List.nodup_cons.2 ⟨fun hmem=>?_,?_⟩
  ·obtain ⟨k,k1,k2⟩:=far _ hmem
   have:=nodup_at hm.nod h4 k2
   omega
  ·have:=h.nod
   simp only [List.reverse_append,List.reverse_cons,List.reverse_nil,List.nil_append,List.cons_append,List.map_cons]
   rw [h2]
   exact this
theorem back_end {parts:List Term} {eqs:List EqD} {steps:List Step} {n f to:Nat} {disc:List (Nat × Edge)} {j:Nat} {out:List Edge} (hok:StepsOk parts eqs steps) (hn:n ≤ steps.length) (hf:f < parts.length) (h:Back steps n to disc j f out):out.reverse = wayF parts.length steps n f to:=
 way_unique hok hn hf h.in_ h.walk h.nod
end Go.Mod
namespace Go.Mod
open Go.Eng
set_option maxRecDepth 100000
theorem getD_mem {α:Type} {l:List α} {i:Nat} {d:α} (h:i < l.length):l.getD i d ∈ l:=by
 rw [List.getD_eq_getElem?_getD,List.getElem?_eq_getElem h]
 exact List.getElem_mem h
theorem getD_at {α:Type} {l:List α} {i:Nat} {d:α} (h:i < l.length):l.getD i d = l[i]:=by
 rw [List.getD_eq_getElem?_getD,List.getElem?_eq_getElem h]
 rfl
structure UOk (n:Nat) (r:URow):Prop where
 lin:linOk r.lin = true
 len:r.uses.length = n
 bd:∀ u ∈ r.uses,0 ≤ u ∧ u ≤ 1000000
def UsOk (n:Nat) (rows:List URow):Prop:=rows.length ≤ 200 ∧ ∀ r ∈ rows,UOk n r
theorem UOk.coef {n:Nat} {r:URow} (h:UOk n r) (v:Nat):-1000000 ≤ coefAt r v ∧ coefAt r v ≤ 1000000:=by
 obtain ⟨h1,h2,_⟩:=linOk_iff.1 h.lin
 unfold coefAt
 rcases Nat.lt_or_ge v r.lin.coefs.length with h3 | h3
 ·exact h2 _ (getD_mem h3)
 ·rw [List.getD_eq_getElem?_getD,List.getElem?_eq_none h3]
  exact ⟨by decide,by decide⟩
theorem unit1_len (n i:Nat):(unit1 n i).length = n:=by simp [unit1]
theorem unit1_bd {n i:Nat}:∀ u ∈ unit1 n i,0 ≤ u ∧ u ≤ 1000000:=by
 intro u hu
 rcases List.mem_or_eq_of_mem_set hu with h | h
 ·rw [(List.mem_replicate.1 h).2]; omega
 ·rw [h]; omega
theorem usedLins_len (ls:List Lin):(usedLins ls).length = ls.length:=by simp [usedLins]
theorem usedLins_ok {ls:List Lin} (h:isSystem ls = true):UsOk ls.length (usedLins ls):=by
 simp only [isSystem,Bool.and_eq_true,decide_eq_true_eq,List.all_eq_true] at h
 refine ⟨by rw [usedLins_len]; omega,fun r hr=>?_⟩
 simp only [usedLins,List.mem_map,List.mem_range] at hr
 obtain ⟨i,hi,rfl⟩:=hr
 exact ⟨h.2 _ (getD_mem hi),unit1_len _ _,unit1_bd⟩
theorem pair_pq {n:Nat} {a b:URow} {v:Nat} (ha:UOk n a) (hb:UOk n b) (h1:0 < coefAt a v) (h2:coefAt b v < 0) :
 (1 ≤ pairG a b v ∧ pairG a b v ≤ 1000000) ∧ (1 ≤ pairP a b v ∧ pairP a b v ≤ 1000000) ∧ (1 ≤ pairQ a b v ∧ pairQ a b v ≤ 1000000):=by
 have ca:=ha.coef v
 have cb:=hb.coef v
 have key:∀ {x y:Int},0 < x → 0 < y → x ≤ 1000000 → (1 ≤ (Int.gcd x y:Int) ∧ (Int.gcd x y:Int) ≤ x) ∧ (1 ≤ x.tdiv (Int.gcd x y) ∧ x.tdiv (Int.gcd x y) ≤ x):=by
  intro x y hx hy hm
  have g1:0 < Int.gcd x y:=Int.gcd_pos_of_ne_zero_left _ (by omega)
  have g2:(Int.gcd x y:Int) ∣ x:=Int.gcd_dvd_left ..
  have g3:(Int.gcd x y:Int) ≤ x:=Int.le_of_dvd hx g2
  refine ⟨⟨by omega,g3⟩,?_,?_⟩
  ·rw [Int.tdiv_eq_ediv_of_nonneg (by omega)]
   exact Int.le_ediv_of_mul_le (by omega) (by omega)
  ·rw [Int.tdiv_eq_ediv_of_nonneg (by omega)]
   exact Int.ediv_le_self _ (by omega)
 have k1:=key h1 (y:=-(coefAt b v)) (by omega) ca.2
 have k2:=key (x:=-(coefAt b v)) (y:=coefAt a v) (by omega) h1 (by omega)
 rw [Int.gcd_comm] at k2
 unfold pairP pairQ pairG
 omega
theorem comb_bd:∀ {m n:Int} {as bs:List Int},(0 ≤ m ∧ m ≤ 1000000) → (0 ≤ n ∧ n ≤ 1000000) → (∀ u ∈ as,0 ≤ u ∧ u ≤ 1000000) → (∀ u ∈ bs,0 ≤ u ∧ u ≤ 1000000) → ∀ u ∈ comb m n as bs,0 ≤ u ∧ u ≤ 2000000000000
 | _,_,[],_,_,_,_,_,u,hu=>by simp [comb] at hu
 | _,_,_ :: _,[],_,_,_,_,u,hu=>by simp [comb] at hu
 | m,n,a :: as,b :: bs,hm,hn,h1,h2,u,hu=>by
   simp only [comb,List.mem_cons] at hu
   rcases hu with e | hu
   ·have ha:=h1 a (by simp)
    have hb:=h2 b (by simp)
    have p1:0 ≤ m * a:=Int.mul_nonneg hm.1 ha.1
    have p2:0 ≤ n * b:=Int.mul_nonneg hn.1 hb.1
    have p3:=(mul_bound hm.1 hm.2 (b:=a) ⟨by omega,ha.2⟩).2
    have p4:=(mul_bound hn.1 hn.2 (b:=b) ⟨by omega,hb.2⟩).2
    rw [e]; omega
   ·exact comb_bd hm hn (fun x hx=>h1 x (List.mem_cons_of_mem _ hx)) (fun x hx=>h2 x (List.mem_cons_of_mem _ hx)) u hu
theorem linSum_ok {a b:Lin} {m n:Int} (h:(linSum a m b n).2 = true):linOk (linSum a m b n).1 = true:=by
 unfold linSum linSum0 at h ⊢
 split
 ·rename_i h1
  rw [if_pos h1] at h
  split
  ·rename_i h2; exact h2
  ·rename_i h2; rw [if_neg h2] at h; cases h
 ·rename_i h1; rw [if_neg h1] at h; cases h
theorem pairU_ok {n:Nat} {a b:URow} {v:Nat} (ha:UOk n a) (hb:UOk n b) (h1:0 < coefAt a v) (h2:coefAt b v < 0) (h:pairOk a b v = true):UOk n (pairU a b v):=by
 simp only [pairOk,Bool.and_eq_true,List.all_eq_true,decide_eq_true_eq] at h
 obtain ⟨_,hp,hq⟩:=pair_pq ha hb h1 h2
 refine ⟨linSum_ok h.1,?_,fun u hu=>⟨?_,h.2 u hu⟩⟩
 ·show (comb _ _ _ _).length = n
  rw [comb_len (by rw [ha.len,hb.len]),ha.len]
 ·exact (comb_bd ⟨by omega,hq.2⟩ ⟨by omega,hp.2⟩ ha.bd hb.bd u hu).1
theorem mem_belowU {a:URow} {v:Nat} {rows:List URow} {p:URow × URow} (h:p ∈ belowU a v rows):p.1 = a ∧ p.2 ∈ rows ∧ 0 < coefAt p.1 v ∧ coefAt p.2 v < 0:=by
 simp only [belowU,List.mem_filterMap] at h
 obtain ⟨b,hb,e⟩:=h
 split at e
 ·rename_i hc
  simp only [Option.some.injEq] at e
  rw [← e]
  exact ⟨rfl,hb,hc.1,hc.2⟩
 ·cases e
theorem addPairs_ok {n v:Nat}:∀ {ps:List (URow × URow)} {out r:List URow},(∀ p ∈ ps,UOk n p.1 ∧ UOk n p.2 ∧ 0 < coefAt p.1 v ∧ coefAt p.2 v < 0) → UsOk n out → addPairs v ps out = some r → UsOk n r
 | [],out,r,_,ho,h=>by
   simp only [addPairs,Option.some.injEq] at h
   rw [← h]; exact ho
 | (a,b) :: ps,out,r,hp,ho,h=>by
   rw [addPairs] at h
   split at h
   ·rename_i hc
    obtain ⟨g1,g2,g3,g4⟩:=hp (a,b) (by simp)
    refine addPairs_ok (fun p hq=>hp p (List.mem_cons_of_mem _ hq)) ⟨by simp; omega,fun x hx=>?_⟩ h
    rcases List.mem_append.1 hx with e | e
    ·exact ho.2 x e
    ·simp only [List.mem_cons,List.not_mem_nil,or_false] at e
     rw [e]
     exact pairU_ok g1 g2 g3 g4 hc.1
   ·cases h
theorem pairsU_ok {n v:Nat} {all rows:List URow} (h1:∀ r ∈ all,UOk n r) (h2:∀ r ∈ rows,UOk n r):∀ p ∈ pairsU all rows v,UOk n p.1 ∧ UOk n p.2 ∧ 0 < coefAt p.1 v ∧ coefAt p.2 v < 0:=by
 intro p hp
 simp only [pairsU,List.mem_flatMap] at hp
 obtain ⟨a,ha,hb⟩:=hp
 obtain ⟨e1,e2,e3,e4⟩:=mem_belowU hb
 exact ⟨e1 ▸ h2 a ha,h1 _ e2,e3,e4⟩
theorem lessU_ok {n v:Nat} {rows r:List URow} (h:UsOk n rows) (hr:lessU rows v = some r):UsOk n r:=
 addPairs_ok (pairsU_ok h.2 h.2) ⟨Nat.le_trans (List.length_filter_le _ _) h.1,fun x hx=>h.2 x (List.mem_filter.1 hx).1⟩ hr
theorem belowU_step {a:URow} {v j:Nat} {rows:List URow} (h:j < rows.length):belowU a v (rows.drop j) = (if 0 < coefAt a v ∧ coefAt rows[j] v < 0 then [(a,rows[j])] else []) ++ belowU a v (rows.drop (j + 1)):=by
 unfold belowU
 rw [List.drop_eq_getElem_cons h,List.filterMap_cons]
 split <;> simp_all
theorem pairsU_step {v i:Nat} {all rows:List URow} (h:i < rows.length):pairsU all (rows.drop i) v = belowU rows[i] v all ++ pairsU all (rows.drop (i + 1)) v:=by
 unfold pairsU
 rw [List.drop_eq_getElem_cons h,List.flatMap_cons]
theorem filter_snoc {α:Type} {p:α → Bool} {l:List α} {i:Nat} (h:i < l.length):(l.take (i + 1)).filter p = (l.take i).filter p ++ (if p l[i] then [l[i]] else []):=by
 rw [List.take_add_one,List.getElem?_eq_getElem h,List.filter_append]
 congr 1
 simp only [Option.toList_some,List.filter_cons,List.filter_nil]
theorem sumLin_nil (xs:List Rat) (sum:Rat):sumLin [] xs sum = some sum:=by cases xs <;> rfl
theorem restGo_nil (v i:Nat) (xs:List Rat) (sum:Rat):restGo v i [] xs sum = some sum:=by cases xs <;> rfl
theorem restGo_step {v i:Nat} {cs:List Int} {xs:List Rat} (h:i < cs.length) (h':i < xs.length) (sum:Rat):restGo v i (cs.drop i) (xs.drop i) sum = if i = v then restGo v (i + 1) (cs.drop (i + 1)) (xs.drop (i + 1)) sum else if (plus sum (-cs[i]) xs[i]).2 then restGo v (i + 1) (cs.drop (i + 1)) (xs.drop (i + 1)) (plus sum (-cs[i]) xs[i]).1 else none:=by
 rw [List.drop_eq_getElem_cons h,List.drop_eq_getElem_cons h',restGo]
theorem sumLin_step {i:Nat} {cs:List Int} {xs:List Rat} (h:i < cs.length) (h':i < xs.length) (sum:Rat):sumLin (cs.drop i) (xs.drop i) sum = if (plus sum cs[i] xs[i]).2 then sumLin (cs.drop (i + 1)) (xs.drop (i + 1)) (plus sum cs[i] xs[i]).1 else none:=by
 rw [List.drop_eq_getElem_cons h,List.drop_eq_getElem_cons h',sumLin]
theorem endsGo_step {v i:Nat} {vals:List Rat} {rows:List URow} (h:i < rows.length) (lo hi:Option Rat):endsGo v vals (rows.drop i) lo hi = if coefAt rows[i] v = 0 then endsGo v vals (rows.drop (i + 1)) lo hi else match boundBy rows[i].lin v vals with
 | none=>none
 | some b=>if 0 < coefAt rows[i] v then endsGo v vals (rows.drop (i + 1)) lo (if lower b hi then some b else hi) else endsGo v vals (rows.drop (i + 1)) (if upper b lo then some b else lo) hi:=by
 rw [List.drop_eq_getElem_cons h,endsGo]
 try rfl
theorem ratOf0_none {n d:Int} (h:(ratOf0 n d).2 = false):(ratOf0 n d).1 = rat0:=by
 unfold ratOf0 at h ⊢
 split
 ·rfl
 ·rename_i h0
  rw [if_neg h0] at h
  simp only at h ⊢
  generalize (⟨_,_⟩:Rat) = x at h ⊢
  cases hx:ratOk x
  ·simp
  ·simp [hx] at h
theorem ratAdd_none {a b:Rat} (h:(ratAdd a b).2 = false):(ratAdd a b).1 = rat0:=by
 unfold ratAdd at h ⊢
 split
 ·rename_i h0; rw [if_pos h0] at h; exact ratOf0_none h
 ·rfl
theorem ratMul_none {a b:Rat} (h:(ratMul a b).2 = false):(ratMul a b).1 = rat0:=by
 unfold ratMul at h ⊢
 split
 ·rename_i h0; rw [if_pos h0] at h; exact ratOf0_none h
 ·rfl
theorem ratMid_none {a b:Rat} (h:(ratMid a b).2 = false):(ratMid a b).1 = rat0:=by
 unfold ratMid at h ⊢
 split
 ·rename_i h0; rw [if_pos h0] at h; exact ratMul_none h
 ·rfl
theorem optR_getD {x:Rat × Bool} (h:x.2 = false → x.1 = rat0):(optR x).getD rat0 = x.1 ∧ (optR x).isSome = x.2:=by
 unfold optR
 cases hx:x.2
 ·rw [if_neg (by simp),h hx]; exact ⟨rfl,rfl⟩
 ·rw [if_pos rfl]; exact ⟨rfl,rfl⟩
theorem chooseE_none:∀ {l h:Option Rat},(chooseE l h).2 = false → (chooseE l h).1 = rat0
 | some _,some _,h=>ratMid_none h
 | none,some _,h=>ratAdd_none h
 | some _,none,h=>ratAdd_none h
 | none,none,h=>by cases h
theorem backGo_none {rows:List URow} {v:Nat} {vals:List Rat} {st:List (List URow)} (h:valueOf rows v vals = none):backGo (rows :: st) v vals = none:=by
 rw [backGo,h]
theorem backGo_some {rows:List URow} {v:Nat} {vals:List Rat} {st:List (List URow)} {x:Rat} (h:valueOf rows v vals = some x):backGo (rows :: st) v vals = backGo st (v + 1) (vals.set v x):=by
 rw [backGo,h]
theorem rowsRat_set {l:List Rat} {i:Nat} {x:Rat}:(rowsRat l).set i (cRat x) = rowsRat (l.set i x):=by simp [rowsRat,List.map_set]
theorem rowsRat_put {l:List Rat} {i:Nat} {x:Rat} (h:i < l.length):(rowsRat l).set i (spl (row (rowsRat l) i) 0 [.val (.int .i64 x.N),.val (.int .i64 x.D)]) = rowsRat (l.set i x):=by
 rw [rowsRat_row h,← rowsRat_set]
 rfl
end Go.Mod
namespace Go.Mod
open Go.Eng
set_option maxRecDepth 100000
theorem mem_earlyPairs {s n:Nat} {p:Nat × Nat}:p ∈ earlyPairs s n ↔ s ≤ p.1 ∧ p.1 < p.2 ∧ p.2 < n:=by
 obtain ⟨i,k⟩:=p
 simp only [earlyPairs,List.mem_flatMap,List.mem_map,List.mem_range'_1,Prod.mk.injEq]
 constructor
 ·rintro ⟨i',h1,k',h2,rfl,rfl⟩; omega
 ·rintro ⟨h1,h2,h3⟩
  exact ⟨i,by omega,k,by omega,rfl,rfl⟩
theorem earlyPairs_step {i n:Nat} (h:i < n):earlyPairs i n = (List.range' (i + 1) (n - (i + 1))).map (fun k=>(i,k)) ++ earlyPairs (i + 1) n:=by
 unfold earlyPairs
 rw [range'_step h]
 rfl
theorem earlyPairs_end {i n:Nat} (h:n ≤ i):earlyPairs i n = []:=by
 unfold earlyPairs
 rw [range'_end h]
 rfl
theorem firstPair_some {n:Nat} {p:Nat → Nat → Bool} {q:Nat × Nat} (h:firstPair n p = some q):q.1 < q.2 ∧ q.2 < n ∧ p q.1 q.2 = true:=by
 have h1:=List.find?_some h
 have h2:=mem_earlyPairs.1 (List.mem_of_find?_eq_some h)
 exact ⟨h2.2.1,h2.2.2,h1⟩
theorem countP_le {α:Type} {p q:α → Bool}:∀ {l:List α},(∀ x ∈ l,p x = true → q x = true) → l.countP p ≤ l.countP q
 | [],_=>Nat.le_refl _
 | x :: l,h=>by
   have:=countP_le (l:=l) fun y hy=>h y (List.mem_cons_of_mem _ hy)
   have hx:=h x (by simp)
   simp only [List.countP_cons]
   cases hp:p x
   ·simp; omega
   ·simp [hx hp]; omega
theorem countP_lt {α:Type} {p q:α → Bool}:∀ {l:List α} {x:α},(∀ x ∈ l,p x = true → q x = true) → x ∈ l → p x = false → q x = true → l.countP p < l.countP q
 | y :: l,x,h,hx,hp,hq=>by
   simp only [List.countP_cons]
   rcases List.mem_cons.1 hx with e | e
   ·have:=countP_le (l:=l) fun y hy=>h y (List.mem_cons_of_mem _ hy)
    rw [← e,hp,hq]
    simp; omega
   ·have:=countP_lt (l:=l) (fun y hy=>h y (List.mem_cons_of_mem _ hy)) e hp hq
    have hy:=h y (by simp)
    cases hpy:p y
    ·simp; omega
    ·simp [hy hpy]; omega
theorem linkStep_len (nums:List Term) (out:List Nat) (e:EqD):(linkStep nums out e).length = out.length:=by
 unfold linkStep
 split <;> simp
theorem links_len (nums:List Term) (eqs:List EqD):(links nums eqs).length = nums.length:=by
 unfold links
 have:∀ (l:List EqD) (c:List Nat),(l.foldl (linkStep nums) c).length = c.length:=by
  intro l
  induction l with
  | nil=>intro c; rfl
  | cons s l ih=>intro c; rw [List.foldl_cons,ih,linkStep_len]
 rw [this,List.length_range]
theorem links_snoc (nums:List Term) (eqs:List EqD) (e:EqD):links nums (eqs ++ [e]) = linkStep nums (links nums eqs) e:=by
 rw [links,List.foldl_append]; rfl
theorem linkStep_keep {nums:List Term} {out:List Nat} {e:EqD} {i k:Nat} (hi:i < out.length) (hk:k < out.length) (h:cl out i = cl out k):cl (linkStep nums out e) i = cl (linkStep nums out e) k:=by
 unfold linkStep
 split
 ·exact h
 ·rw [cl_map hi,cl_map hk,h]
theorem eqsOf_app (a b:List LitD):eqsOf (a ++ b) = eqsOf a ++ eqsOf b:=by simp [eqsOf]
theorem eqsOf_eqLit (a b:Term):eqsOf [eqLit a b] = [⟨a,b⟩]:=rfl
theorem linked_keep {nums:List Term} {lits more:List LitD} {i k:Nat} (hi:i < nums.length) (hk:k < nums.length) (h:linked nums lits i k = true):linked nums (lits ++ more) i k = true:=by
 simp only [linked,decide_eq_true_eq] at h ⊢
 rw [eqsOf_app]
 generalize eqsOf more = es
 generalize eqsOf lits = ds at h
 induction es generalizing ds with
 | nil=>rw [List.append_nil]; exact h
 | cons e es ih=>
   have:=ih (ds ++ [e]) (by
    rw [links_snoc]
    exact linkStep_keep (by rw [links_len]; exact hi) (by rw [links_len]; exact hk) h)
   rw [List.append_assoc] at this
   exact this
theorem placeN_get {nums:List Term} (hn:nums.Nodup) {i:Nat} (hi:i < nums.length):termIdx nums nums[i] = i:=by
 have hm:nums[i] ∈ nums:=List.getElem_mem hi
 have h1:=termIdx_get hm
 have h2:=termIdx_nn.2 hm
 obtain ⟨h3,h4⟩:=List.getElem?_eq_some_iff.1 h1
 have:=(List.getElem_inj hn).1 h4
 omega
theorem getD_term {nums:List Term} {i:Nat} (hi:i < nums.length):nums.getD i term0 = nums[i]:=by
 rw [List.getD_eq_getElem?_getD,List.getElem?_eq_getElem hi]; rfl
theorem linked_new {nums:List Term} (hn:nums.Nodup) {lits:List LitD} {i k:Nat} (hi:i < nums.length) (hk:k < nums.length):linked nums (lits ++ [eqLit (nums.getD i term0) (nums.getD k term0)]) i k = true:=by
 simp only [linked,decide_eq_true_eq]
 rw [eqsOf_app,eqsOf_eqLit,links_snoc,linkStep,getD_term hi,getD_term hk]
 have e1:=placeN_get hn hi
 have e2:=placeN_get hn hk
 simp only [e1,e2,placeN,Int.toNat_natCast]
 rw [if_neg (by omega),cl_map (by rw [links_len]; exact hi),cl_map (by rw [links_len]; exact hk)]
 simp
theorem states_keep {nums:List Term} {lits more:List LitD} {i k:Nat} (h:states nums lits i k = true):states nums (lits ++ more) i k = true:=by
 simp only [states,List.any_append,Bool.or_eq_true] at h ⊢
 exact .inl h
theorem lessLit_no (a b:Term):(lessLit a b).no = false:=by
 unfold lessLit
 split <;> rfl
theorem states_new {nums:List Term} {lits:List LitD} {i k:Nat}:states nums (lits ++ [lessLit (nums.getD i term0) (nums.getD k term0)]) i k = true:=by
 simp [states,lessLit_no]
def isOpen (nums:List Term) (lits:List LitD) (i k:Nat):Bool:=!linked nums lits i k && (!states nums lits i k && !states nums lits k i)
def room (nums:List Term) (lits:List LitD):Nat:=(earlyPairs 0 nums.length).countP (fun q=>!linked nums lits q.1 q.2) + (earlyPairs 0 nums.length).countP (fun q=>isOpen nums lits q.1 q.2)
theorem unlinked_app {nums:List Term} {lits more:List LitD}:∀ q ∈ earlyPairs 0 nums.length,(!linked nums (lits ++ more) q.1 q.2) = true → (!linked nums lits q.1 q.2) = true:=by
 intro q hq h
 have hm:=mem_earlyPairs.1 hq
 cases hl:linked nums lits q.1 q.2
 ·rfl
 ·rw [linked_keep (by omega) (by omega) hl] at h; cases h
theorem open_app {nums:List Term} {lits more:List LitD}:∀ q ∈ earlyPairs 0 nums.length,isOpen nums (lits ++ more) q.1 q.2 = true → isOpen nums lits q.1 q.2 = true:=by
 intro q hq h
 simp only [isOpen,Bool.and_eq_true] at h ⊢
 refine ⟨unlinked_app q hq h.1,?_,?_⟩
 ·cases hl:states nums lits q.1 q.2
  ·rfl
  ·rw [states_keep hl] at h; simp at h
 ·cases hl:states nums lits q.2 q.1
  ·rfl
  ·have:=h.2.2; rw [states_keep hl] at this; cases this
theorem room_eq {nums:List Term} (hn:nums.Nodup) {lits:List LitD} {i k:Nat} (h1:i < k) (h2:k < nums.length) (h:linked nums lits i k = false):room nums (lits ++ [eqLit (nums.getD i term0) (nums.getD k term0)]) < room nums lits:=by
 unfold room
 have a:=countP_lt (x:=(i,k)) (unlinked_app (more:=[eqLit (nums.getD i term0) (nums.getD k term0)])) (mem_earlyPairs.2 ⟨Nat.zero_le _,h1,h2⟩) (by show (!linked nums (lits ++ [eqLit (nums.getD i term0) (nums.getD k term0)]) i k) = false; rw [linked_new hn (show i < nums.length by omega) h2]; rfl) (by rw [h]; rfl)
 have b:=countP_le (open_app (nums:=nums) (lits:=lits) (more:=[eqLit (nums.getD i term0) (nums.getD k term0)]))
 omega
theorem room_less {nums:List Term} {lits:List LitD} {i k:Nat} (h1:i < k) (h2:k < nums.length) (h:isOpen nums lits i k = true) {l:LitD} (hl:l = lessLit (nums.getD i term0) (nums.getD k term0) ∨ l = lessLit (nums.getD k term0) (nums.getD i term0)):room nums (lits ++ [l]) < room nums lits:=by
 unfold room
 have a:=countP_le (unlinked_app (nums:=nums) (lits:=lits) (more:=[l]))
 have b:=countP_lt (x:=(i,k)) (open_app (nums:=nums) (lits:=lits) (more:=[l])) (mem_earlyPairs.2 ⟨Nat.zero_le _,h1,h2⟩) (by
  rcases hl with rfl | rfl
  ·simp only [isOpen,states_new]; simp
  ·simp only [isOpen,states_new]; simp) h
 omega
theorem room_le {nums:List Term} (h:nums.length ≤ 4) (lits:List LitD):room nums lits ≤ 12:=by
 have a:=List.countP_le_length (p:=fun q:Nat × Nat=>!linked nums lits q.1 q.2) (l:=earlyPairs 0 nums.length)
 have b:=List.countP_le_length (p:=fun q:Nat × Nat=>isOpen nums lits q.1 q.2) (l:=earlyPairs 0 nums.length)
 have c:(earlyPairs 0 nums.length).length ≤ 6:=by
  have key:∀ n,n ≤ 4 → (earlyPairs 0 n).length ≤ 6:=by decide
  exact key _ h
 unfold room
 omega
end Go.Mod
namespace Go.Mod
open Go.Eng
set_option maxRecDepth 100000
def KidsIn (parts:List Term):Prop:=∀ t ∈ parts,∀ k ∈ t.kids,k ∈ parts
theorem placeN_lt {parts:List Term} {t:Term} (h:t ∈ parts):placeN parts t < parts.length:=termIdx_lt h
theorem placeN_cast {parts:List Term} {t:Term} (h:t ∈ parts):termIdx parts t = (placeN parts t:Int):=by
 have:=termIdx_nn.2 h
 unfold placeN
 omega
theorem sameKs_step {parts:List Term} {c:List Nat} {xs ys:List Term} {i:Nat} (h:i < xs.length) (h':i < ys.length):sameKs parts c (xs.drop i) (ys.drop i) = (sameK parts c xs[i] ys[i] && sameKs parts c (xs.drop (i + 1)) (ys.drop (i + 1))):=by
 rw [List.drop_eq_getElem_cons h,List.drop_eq_getElem_cons h',sameKs]
theorem sameKs_nil {parts:List Term} {c:List Nat}:sameKs parts c [] [] = true:=rfl
theorem sameKs_len {parts:List Term} {c:List Nat}:∀ {xs ys:List Term},xs.length ≠ ys.length → sameKs parts c xs ys = false
 | [],[],h=>(h rfl).elim
 | [],_ :: _,_=>rfl
 | _ :: _,[],_=>rfl
 | x :: xs,y :: ys,h=>by
   rw [sameKs,sameKs_len (by simpa using h),Bool.and_false]
def joinUp (c:List Nat) (from_ to i:Nat):List Nat:=((c.take i).map fun k=>if k = from_ then to else k) ++ c.drop i
theorem joinUp_len (c:List Nat) (f t i:Nat):(joinUp c f t i).length = c.length:=by simp [joinUp]; omega
theorem joinUp_get {c:List Nat} {f t i:Nat} (h:i < c.length) (h':i < (joinUp c f t i).length):(joinUp c f t i)[i] = c[i]:=by
 have:(joinUp c f t i)[i]? = some c[i]:=by
  unfold joinUp
  rw [List.getElem?_append_right (by simp; omega)]
  simp only [List.length_map,List.length_take,Nat.min_eq_left (Nat.le_of_lt h),Nat.sub_self,List.getElem?_drop,Nat.add_zero]
  exact List.getElem?_eq_getElem h
 exact (List.getElem?_eq_some_iff.1 this).2
theorem joinUp_next {c:List Nat} {f t i:Nat} (h:i < c.length):joinUp c f t (i + 1) = (joinUp c f t i).set i (if c[i] = f then t else c[i]):=by
 have e:((c.take i).map fun k=>if k = f then t else k).length = i:=by
  rw [List.length_map,List.length_take,Nat.min_eq_left (Nat.le_of_lt h)]
 unfold joinUp
 rw [List.set_append_right _ _ (by omega),e,Nat.sub_self,List.drop_eq_getElem_cons h,List.set_cons_zero,List.take_add_one,List.getElem?_eq_getElem h,List.map_append,List.append_assoc]
 rfl
theorem joinUp_keep {c:List Nat} {f t i:Nat} (h:i < c.length) (hne:c[i] ≠ f):joinUp c f t (i + 1) = joinUp c f t i:=by
 rw [joinUp_next h,if_neg hne]
 conv=>rhs; rw [← List.set_getElem_self (as:=joinUp c f t i) (i:=i) (h:=by rw [joinUp_len]; exact h)]
 rw [joinUp_get h]
theorem joinUp_end {c:List Nat} {a b i:Nat} (h:c.length ≤ i):joinUp c (max (cl c a) (cl c b)) (min (cl c a) (cl c b)) i = joinC c a b:=by
 unfold joinUp joinC
 rw [List.take_of_length_le h,List.drop_of_length_le h,List.append_nil]
theorem rowsN_put {l:List Nat} {i n:Nat} (h:i < l.length):(rowsN l).set i (spl (row (rowsN l) i) 0 [.val (.int .i64 (n:Int))]) = rowsN (l.set i n):=by
 rw [rowsN_row h,← rowsN_set]
 rfl
def lateRest (e l n:Nat):List (Nat × Nat):=(List.range' e (l - e)).map (fun e=>(e,l)) ++ latePairs (l + 1) n
theorem lateRest_start {l n:Nat} (h:l < n):latePairs l n = lateRest 0 l n:=latePairs_step h
theorem lateRest_step {e l n:Nat} (h:e < l):lateRest e l n = (e,l) :: lateRest (e + 1) l n:=by
 unfold lateRest
 rw [range'_step h]; rfl
theorem lateRest_end {e l n:Nat} (h:l ≤ e):lateRest e l n = latePairs (l + 1) n:=by
 unfold lateRest
 rw [range'_end h]; rfl
end Go.Mod
namespace Go.Mod
open Go.Eng
set_option maxRecDepth 100000
def stepWhy (parts:List Term) (steps:List Step) (why:Nat → Nat → Nat → Why) (i:Nat):Why:=
 if (stepAt steps i).given < 0 then .mk 5 0 (.mk (parts.getD (vA steps i) term0).name []) (((parts.getD (vA steps i) term0).kids.zip (parts.getD (vB steps i) term0).kids).map fun p=>why i (placeN parts p.1) (placeN parts p.2)) else .mk 2 (stepAt steps i).given term0 []
theorem edgeWhy_eq (parts:List Term) (steps:List Step) (why:Nat → Nat → Nat → Why) (e:Edge):edgeWhy parts steps why e = if e.back then .mk 3 0 term0 [stepWhy parts steps why e.step] else stepWhy parts steps why e.step:=rfl
theorem stepAt_get {steps:List Step} {i:Nat} (h:i < steps.length):stepAt steps i = steps[i]:=by
 rw [stepAt,List.getD_eq_getElem?_getD,List.getElem?_eq_getElem h]; rfl
theorem joinC_le {c:List Nat} {a b m:Nat} (h:∀ x ∈ c,x ≤ m):∀ x ∈ joinC c a b,x ≤ m:=by
 intro x hx
 simp only [joinC,List.mem_map] at hx
 obtain ⟨y,hy,rfl⟩:=hx
 have hle:∀ i,cl c i ≤ m:=fun i=>by
  rcases Nat.lt_or_ge i c.length with h1 | h1
  ·exact h _ (cl_mem h1)
  ·rw [cl_ge h1]; exact Nat.zero_le _
 have:=hle a
 have:=hle b
 have:=h y hy
 split <;> omega
theorem sum_bound {m:Nat}:∀ {c:List Nat},(∀ x ∈ c,x ≤ m) → c.sum ≤ c.length * m
 | [],_=>by simp
 | x :: c,h=>by
   have h1:=h x (by simp)
   have h2:=sum_bound (c:=c) fun y hy=>h y (List.mem_cons_of_mem _ hy)
   simp only [List.sum_cons,List.length_cons,Nat.add_mul]
   omega
theorem sameKs_at {parts:List Term} {c:List Nat}:∀ {xs ys:List Term},sameKs parts c xs ys = true → xs.length = ys.length ∧ ∀ (i:Nat) (h:i < xs.length) (h':i < ys.length),cl c (placeN parts xs[i]) = cl c (placeN parts ys[i])
 | [],[],_=>⟨rfl,fun i h=>by simp at h⟩
 | [],_ :: _,h=>by cases h
 | _ :: _,[],h=>by cases h
 | x :: xs,y :: ys,h=>by
   simp only [sameKs,Bool.and_eq_true] at h
   obtain ⟨i1,i2⟩:=sameKs_at h.2
   refine ⟨by simp [i1],fun i h1 h2=>?_⟩
   cases i with
   | zero=>simpa [sameK] using h.1
   | succ i=>exact i2 i (by simpa using h1) (by simpa using h2)
theorem alike_at {parts:List Term} {c:List Nat} {a b:Nat} (h:alike parts c a b = true):0 < (parts.getD a term0).kids.length ∧ (parts.getD a term0).name = (parts.getD b term0).name ∧ (parts.getD a term0).kids.length = (parts.getD b term0).kids.length ∧
 ∀ (i:Nat) (h:i < (parts.getD a term0).kids.length) (h':i < (parts.getD b term0).kids.length),cl c (placeN parts (parts.getD a term0).kids[i]) = cl c (placeN parts (parts.getD b term0).kids[i]):=by
 simp only [alike,Bool.and_eq_true,decide_eq_true_eq] at h
 obtain ⟨i1,i2⟩:=sameKs_at h.2.2
 exact ⟨h.1,h.2.1,i1,i2⟩
theorem zip_snoc {α β γ:Type} {f:α × β → γ} {xs:List α} {ys:List β} {i:Nat} (h:i < xs.length) (h':i < ys.length):((xs.zip ys).take (i + 1)).map f = ((xs.zip ys).take i).map f ++ [f (xs[i],ys[i])]:=by
 rw [List.take_add_one,List.getElem?_eq_getElem (by simp; omega),List.map_append]
 simp
def whyOf (one:Edge → Why) (t:Term):List Edge → Why
 | []=>.mk 1 0 t []
 | e :: es=>wayWhy one (one e) es
theorem whyF_eq (parts:List Term) (steps:List Step) (f n a b:Nat):whyF parts steps (f + 1) n a b = whyOf (edgeWhy parts steps (whyF parts steps f)) (parts.getD a term0) (wayF parts.length steps n a b):=by
 rw [whyF]
 cases wayF parts.length steps n a b <;> rfl
theorem whyOf_first {one:Edge → Why} {t:Term} {way:List Edge} (h:0 < way.length):whyOf one t way = wayWhy one (one way[0]) (way.drop 1):=by
 cases way with
 | nil=>simp at h
 | cons e es=>rfl
end Go.Mod
