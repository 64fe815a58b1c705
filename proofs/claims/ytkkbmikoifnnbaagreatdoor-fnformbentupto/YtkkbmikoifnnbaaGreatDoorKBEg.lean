/-
  The texts of atoms, literals and formulas, in plain Lean. A step towards the exact laws. The texts of formulas: how long they are, piece by piece. Plain laws; no program is walked here.
-/
import Derived.Test.YtkkbmikoifnnbaaGreatDoorKBE
import Derived.Lib.ItoaLen
set_option linter.unusedVariables false
set_option linter.unusedSimpArgs false
namespace Go.Mod
open Go.Eng
set_option maxRecDepth 100000
def sumText:List Term → List Int → Str
 | t :: ts,n :: ns=>(Lib.itoa n ++ (42 :: (termText t ++ [32]))) ++ sumText ts ns
 | _,_=>[]
def signT (b:Bool):Str:=if b then [60] else [60,61]
def atomText (a:Atom):Str:=if a.kind = 1 then termText a.A ++ (61 :: termText a.B) else sumText a.nums a.times ++ (signT a.strict ++ (32 :: Lib.itoa a.bound))
def litText (l:LitD):Str:=if l.no then [110,111,116,32] ++ atomText l.atom else atomText l.atom
def markK (k:Int):Str:=if k = 2 then [33] else if k = 3 then [38] else if k = 4 then [124] else if k = 5 then [62] else [126]
mutual
def fText:Form → Str
 | .mk k l ks=>if k = 1 then 123 :: (litText l ++ [125]) else markK k ++ (40 :: (commas (fTexts ks) ++ [41]))
def fTexts:List Form → List Str
 | []=>[]
 | t :: ts=>fText t :: fTexts ts
end
def formText (f:Form):Str:=if isForm f then fText f else []
theorem fText_eq (t:Form):fText t = if t.kind = 1 then 123 :: (litText t.lit ++ [125]) else markK t.kind ++ (40 :: (commas (fTexts t.kids) ++ [41])):=by
 cases t
 rw [fText]
 rfl
theorem fTexts_map:∀ (ts:List Form),fTexts ts = ts.map fText
 | []=>rfl
 | t :: ts=>by rw [fTexts,fTexts_map ts]; rfl
theorem sumText_drop {ts:List Term} {ns:List Int} {i:Nat} (h1:i < ts.length) (h2:i < ns.length):sumText (ts.drop i) (ns.drop i) = (Lib.itoa ns[i] ++ (42 :: (termText ts[i] ++ [32]))) ++ sumText (ts.drop (i + 1)) (ns.drop (i + 1)):=by
 rw [List.drop_eq_getElem_cons h1,List.drop_eq_getElem_cons h2]
 rfl
theorem sumText_end {ts:List Term} {ns:List Int} {i:Nat} (h1:ts.length ≤ i):sumText (ts.drop i) (ns.drop i) = []:=by
 rw [List.drop_of_length_le h1]
 rfl
theorem fText_ne (t:Form):fText t ≠ []:=by
 rw [fText_eq]
 split
 ·simp
 ·simp
theorem formText_ne {f:Form} (h:isForm f = true):formText f ≠ []:=by
 rw [formText,if_pos h]
 exact fText_ne f
end Go.Mod
namespace Go.Mod
open Go.Eng
set_option maxRecDepth 100000
theorem commas_snoc:∀ (xs:List Str) (y:Str),xs ≠ [] → commas (xs ++ [y]) = commas xs ++ 44 :: y
 | [],_,h=>(h rfl).elim
 | [x],y,_=>by simp [commas]
 | x :: z :: xs,y,_=>by
   have ih:=commas_snoc (z :: xs) y (by simp)
   have e1:commas (x :: z :: xs ++ [y]) = x ++ (44 :: commas (z :: xs ++ [y])):=by simp [commas]
   have e2:commas (x :: z :: xs) = x ++ (44 :: commas (z :: xs)):=by simp [commas]
   rw [e1,e2,ih]
   simp
theorem commas_len:∀ (xs:List Str) (L:Nat),(∀ x ∈ xs,x.length ≤ L) → (commas xs).length ≤ xs.length * (L + 1)
 | [],_,_=>by simp [commas]
 | [x],L,h=>by
   have:=h x (by simp)
   simp [commas]
   omega
 | x :: z :: xs,L,h=>by
   have ih:=commas_len (z :: xs) L fun y hy=>h y (by simp [hy])
   have h1:=h x (by simp)
   have e2:commas (x :: z :: xs) = x ++ (44 :: commas (z :: xs)):=by simp [commas]
   rw [e2]
   simp only [List.length_append,List.length_cons] at ih ⊢
   have e3:(xs.length + 1 + 1) * (L + 1) = (xs.length + 1) * (L + 1) + (L + 1):=by rw [Nat.add_mul,Nat.one_mul]
   omega
theorem term_len {t:Term} (h:isTerm t = true):(termText t).length ≤ 122:=by
 have:=text_len t 4 (isTerm_tShape h)
 omega
theorem itoa_len {n:Int} (h:-2000000 ≤ n ∧ n ≤ 2000000):(Lib.itoa n).length ≤ 21:=Lib.itoa_length_le n (by omega) (by omega)
theorem sumText_len:∀ (ts:List Term) (ns:List Int),(∀ t ∈ ts,isTerm t = true) → (∀ n ∈ ns,-50 ≤ n ∧ n ≤ 50) → (sumText ts ns).length ≤ ts.length * 145
 | [],_,_,_=>by simp [sumText]
 | t :: ts,[],_,_=>by simp [sumText]
 | t :: ts,n :: ns,h1,h2=>by
   have ih:=sumText_len ts ns (fun x hx=>h1 x (by simp [hx])) fun x hx=>h2 x (by simp [hx])
   have a:=term_len (h1 t (by simp))
   have b:=h2 n (by simp)
   have c:=itoa_len (n:=n) (by omega)
   simp only [sumText,List.length_append,List.length_cons,List.length_nil]
   omega
theorem numsGo_times:∀ (ts:List Term) (ns:List Int) (p:Option Term),numsGo p ts ns = true → ns.length = ts.length → ∀ n ∈ ns,-50 ≤ n ∧ n ≤ 50
 | [],ns,_,_,hl,n,hn=>by
   have:ns = []:=List.eq_nil_of_length_eq_zero hl
   rw [this] at hn
   simp at hn
 | t :: ts,[],_,_,_,n,hn=>by simp at hn
 | t :: ts,m :: ns,p,h,hl,n,hn=>by
   have h':=h
   unfold numsGo at h'
   simp only [Bool.and_eq_true] at h'
   rcases List.mem_cons.1 hn with rfl | hn
   ·exact withinB_iff.1 h'.2.1
   ·exact numsGo_times ts ns _ h'.2.2.2.2 (by simpa using hl) n hn
theorem atomText_len {a:Atom} (h:atomWf a = true):(atomText a).length ≤ 700:=by
 unfold atomText
 rcases atomWf_kind h with k | k
 ·rw [if_pos k]
  obtain ⟨h1,h2⟩:=atomWf_eq h k
  have a1:=term_len h1
  have a2:=term_len h2
  simp only [List.length_append,List.length_cons]
  omega
 ·rw [if_neg (by omega)]
  obtain ⟨_,_,h3,h4,h5,h6⟩:=atomWf_sum h k
  have b1:=itoa_len (n:=a.bound) (by omega)
  have hn:=atomTerms_ok h
  simp only [atomTerms,k,if_neg (show ¬ (2:Int) = 1 by decide)] at hn
  have b2:=sumText_len a.nums a.times hn.2 (numsGo_times _ _ _ h6 h4)
  have b3:(signT a.strict).length ≤ 2:=by cases a.strict <;> simp [signT]
  simp only [List.length_append,List.length_cons]
  omega
theorem litText_len {l:LitD} (h:atomWf l.atom = true):(litText l).length ≤ 704:=by
 have:=atomText_len h
 unfold litText
 split
 ·simp only [List.length_append,List.length_cons,List.length_nil]
  omega
 ·omega
theorem markK_len (k:Int):(markK k).length = 1:=by
 unfold markK
 repeat' split
 all_goals rfl
theorem formKind {f:Form} {d:Nat} (h:formShape f (d + 1) = true):(f.kind = 1 ∧ atomWf f.lit.atom = true ∧ f.kids = []) ∨ ((f.kind = 2 ∨ f.kind = 3 ∨ f.kind = 4 ∨ f.kind = 5 ∨ f.kind = 6) ∧ f.kids ≠ []):=by
 obtain ⟨h1,_,_⟩:=formShape_kids h
 simp only [formHead,Bool.and_eq_true,decide_eq_true_eq] at h1
 obtain ⟨a,b⟩:=h1
 unfold kidsOf at a
 rcases Classical.em (f.kind = 1) with k1 | k1
 ·rw [if_pos k1] at a b
  exact Or.inl ⟨k1,b,List.eq_nil_of_length_eq_zero (by omega)⟩
 ·rw [if_neg k1] at a
  refine Or.inr ⟨?_,fun e=>?_⟩
  ·split at a
   ·omega
   ·split at a
    ·omega
    ·omega
  ·rw [e] at a
   split at a
   ·simp at a
   ·split at a
    ·simp at a
    ·simp at a
theorem fText_len:∀ (d:Nat) (t:Form),formShape t d = true → (fText t).length + 5 ≤ 711 * 2 ^ d
 | 0,t,h=>by cases t; simp [formShape] at h
 | d + 1,t,h=>by
   obtain ⟨_,h2,h3⟩:=formShape_kids h
   have hp:1 ≤ 2 ^ d:=Nat.one_le_two_pow
   rw [fText_eq,Nat.pow_succ]
   rcases formKind h with ⟨k,ha,_⟩ | ⟨k,_⟩
   ·have:=litText_len ha
    rw [if_pos k]
    simp only [List.length_cons,List.length_append,List.length_nil]
    omega
   ·have hb:∀ x ∈ fTexts t.kids,x.length ≤ 711 * 2 ^ d - 5:=by
     intro x hx
     rw [fTexts_map] at hx
     obtain ⟨y,hy,rfl⟩:=List.mem_map.1 hx
     have:=fText_len d y (formShapes_mem h3 y hy)
     omega
    have hc:=commas_len _ _ hb
    have hm:=markK_len t.kind
    rw [fTexts_map,List.length_map] at hc
    have hd:t.kids.length * (711 * 2 ^ d - 5 + 1) ≤ 2 * (711 * 2 ^ d - 5 + 1):=Nat.mul_le_mul_right _ h2
    rw [if_neg (by omega),fTexts_map]
    simp only [List.length_cons,List.length_append,List.length_nil]
    omega
theorem fText_len' {t:Form} {d:Nat} (hd:d ≤ 5) (h:formShape t d = true):(fText t).length ≤ 22752:=by
 have a:=fText_len d t h
 have b:2 ^ d ≤ 2 ^ 5:=Nat.pow_le_pow_right (by omega) hd
 omega
theorem decDigits_step {u:Nat} (h:¬ u < 10):Lib.decDigits u = Lib.decDigits (u / 10) ++ [UInt8.ofNat (48 + u % 10)]:=by rw [Lib.decDigits,dif_neg h]
end Go.Mod
