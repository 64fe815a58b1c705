/-
  What is drawn from a code, in plain Lean: words, terms, atoms, forms. No program is walked here. What is drawn from a code, in plain Lean, going on: atoms, forms, lists of forms. No program is walked here.
-/
import Derived.Test.YtpidddienjoleaaGreatKAE
import Derived.Test.YtpidddienjoleaaGreatKADa
import Derived.Test.YtpidddienjoleaaGreatKAEa
import Derived.Lib.SlicesCompact
set_option linter.unusedVariables false
set_option linter.unusedSimpArgs false
namespace Go.Mod
open Go.Eng
structure OkB (b:List Int):Prop where
 len:b.length ≤ 2000
 byte:∀ x ∈ b,0 ≤ x ∧ x ≤ 255
theorem OkB.getD {b:List Int} (h:OkB b) (i:Nat):0 ≤ b.getD i 0 ∧ b.getD i 0 ≤ 255:=by
 rw [List.getD_eq_getElem?_getD]
 cases hx:b[i]? with
 | none=>simp
 | some x=>exact h.byte x (List.mem_of_getElem? hx)
def pickX (b:List Int) (p:Int):Int:=b.getD (p.tmod b.length).toNat 0 * 131 + b.getD ((p * 7 + 3).tmod b.length).toNat 0 * 1117 + p * 29 + p.tdiv b.length * 53
def pickV (b:List Int) (p n:Int):Int:=
 if n < 1 then 0 else if b.length = 0 then 0 else
 if p < b.length then (b.getD p.toNat 0).tmod n else (xorI (pickX b p) ((pickX b p).tdiv 64)).tmod n
def numV (b:List Int) (p:Int) (l:List Int):Int:=l.getD (pickV b p l.length).toNat 0
def ofV (b:List Int) (p:Int) (l:List Str):Str:=l.getD (pickV b p l.length).toNat []
theorem pickX_b {b:List Int} (h:OkB b) {p:Int} (h1:0 ≤ p) (h2:p ≤ 1000000000) (h3:b.length ≠ 0):0 ≤ p.tdiv b.length ∧ p.tdiv b.length ≤ p ∧ 0 ≤ pickX b p ∧ pickX b p ≤ 1000000000000:=by
 have e1:=h.getD (p.tmod b.length).toNat
 have e2:=h.getD ((p * 7 + 3).tmod b.length).toNat
 have e3:0 ≤ p.tdiv b.length:=Int.tdiv_nonneg h1 (Int.natCast_nonneg _)
 have e4:p.tdiv b.length ≤ p:=by
  rw [Int.tdiv_eq_ediv_of_nonneg h1]
  exact Int.ediv_le_self _ h1
 refine ⟨e3,e4,?_,?_⟩ <;> (unfold pickX; omega)
theorem pickV_b {b:List Int} (h:OkB b) {p n:Int} (h1:0 ≤ p) (hn:1 ≤ n):0 ≤ pickV b p n ∧ pickV b p n < n:=by
 unfold pickV
 rw [if_neg (by omega)]
 split
 ·omega
 ·split
  ·have:=h.getD p.toNat
   exact ⟨Int.tmod_nonneg _ this.1,Int.tmod_lt_of_pos _ (by omega)⟩
  ·exact ⟨Int.tmod_nonneg _ (xorI_nn _ _),Int.tmod_lt_of_pos _ (by omega)⟩
theorem pickN_b {b:List Int} (h:OkB b) {p:Int} {n:Nat} (h1:0 ≤ p) (hn:1 ≤ n):∃ k:Nat,pickV b p n = k ∧ k < n:=by
 have:=pickV_b h (p:=p) (n:=n) h1 (by omega)
 exact ⟨(pickV b p n).toNat,by omega,by omega⟩
theorem numV_mem {b:List Int} (h:OkB b) {p:Int} {l:List Int} (h1:0 ≤ p) (hl:l ≠ []):numV b p l ∈ l:=by
 have hn:1 ≤ l.length:=by cases l with | nil=>exact (hl rfl).elim | cons=>simp
 obtain ⟨k,e,hk⟩:=pickN_b h (n:=l.length) h1 hn
 unfold numV
 rw [e,Int.toNat_natCast,List.getD_eq_getElem?_getD,List.getElem?_eq_getElem hk]
 exact List.getElem_mem hk
theorem ofV_mem {b:List Int} (h:OkB b) {p:Int} {l:List Str} (h1:0 ≤ p) (hl:l ≠ []):ofV b p l ∈ l:=by
 have hn:1 ≤ l.length:=by cases l with | nil=>exact (hl rfl).elim | cons=>simp
 obtain ⟨k,e,hk⟩:=pickN_b h (n:=l.length) h1 hn
 unfold ofV
 rw [e,Int.toNat_natCast,List.getD_eq_getElem?_getD,List.getElem?_eq_getElem hk]
 exact List.getElem_mem hk
def mapS {α β:Type} (f:α → Int → β × Int):List α → Int → List β × Int
 | [],p=>([],p)
 | a :: as,p=>((f a p).1 :: (mapS f as (f a p).2).1,(mapS f as (f a p).2).2)
theorem mapS_snoc {α β:Type} (f:α → Int → β × Int) (x:α):∀ (as:List α) (p:Int),mapS f (as ++ [x]) p = ((mapS f as p).1 ++ [(f x (mapS f as p).2).1],(f x (mapS f as p).2).2)
 | [],p=>rfl
 | a :: as,p=>by simp only [List.cons_append,mapS,mapS_snoc f x as]
theorem mapS_take {α β:Type} (f:α → Int → β × Int) {as:List α} {i:Nat} (h:i < as.length) (p:Int):mapS f (as.take (i + 1)) p = ((mapS f (as.take i) p).1 ++ [(f as[i] (mapS f (as.take i) p).2).1],(f as[i] (mapS f (as.take i) p).2).2):=by
 have e:as.take (i + 1) = as.take i ++ [as[i]]:=by rw [List.take_add_one,List.getElem?_eq_getElem h]; rfl
 rw [e,mapS_snoc]
theorem mapS_b {α β:Type} {f:α → Int → β × Int} {c:Int} (hf:∀ a p,p ≤ (f a p).2 ∧ (f a p).2 ≤ p + c):∀ (as:List α) (p:Int),p ≤ (mapS f as p).2 ∧ (mapS f as p).2 ≤ p + as.length * c
 | [],p=>by simp [mapS]
 | a :: as,p=>by
   have h1:=hf a p
   have h2:=mapS_b hf as (f a p).2
   simp only [mapS,List.length_cons]
   have:((as.length + 1:Nat):Int) * c = as.length * c + c:=by rw [Int.natCast_add,Int.add_mul]; simp
   omega
theorem mapS_len {α β:Type} (f:α → Int → β × Int):∀ (as:List α) (p:Int),(mapS f as p).1.length = as.length
 | [],_=>rfl
 | a :: as,p=>by simp [mapS,mapS_len f as]
def iterS {α:Type} (f:α → Int → α × Int):Nat → α → Int → α × Int
 | 0,a,p=>(a,p)
 | n + 1,a,p=>iterS f n (f a p).1 (f a p).2
def baseS (k:Int):Sig:=
 if k = 0 then ⟨[⟨[97],[],0⟩,⟨[98],[],0⟩,⟨[99],[],0⟩,⟨[102],[0],0⟩,⟨[103],[0,0],0⟩]⟩ else
 if k = 1 then ⟨[⟨[97],[],0⟩,⟨[98],[],0⟩,⟨[104],[0],1⟩,⟨[120],[],1⟩,⟨[121],[],1⟩]⟩ else
 if k = 2 then ⟨[⟨[107],[1],1⟩,⟨[120],[],1⟩,⟨[121],[],1⟩,⟨[122],[],1⟩]⟩ else
 if k = 3 then ⟨[⟨[97],[],0⟩,⟨[117],[1],0⟩,⟨[118],[1,0],1⟩,⟨[120],[],1⟩,⟨[121],[],1⟩]⟩ else ⟨[]⟩
def sigS (b:List Int) (p:Int):Sig × Int:=(baseS (numV b p [0,0,1,1,2,3,1,4]),p + 1)
def SigFair (s:Sig):Prop:=s.syms.length ≤ 7 ∧ ∀ x ∈ s.syms,x.args.length ≤ 2 ∧ nameOk x.name = true
instance (s:Sig):Decidable (SigFair s):=by unfold SigFair; infer_instance
theorem baseS_fair (k:Int):SigFair (baseS k):=by
 unfold baseS
 split
 ·decide
 ·split
  ·decide
  ·split
   ·decide
   ·split <;> decide
def bendN (b:List Int) (p:Int) (x:Sym):Sym:=⟨ofV b p [[],[65],[97,98,99],[122,122],[97]],x.args,x.sort⟩
def fillS (b:List Int):Nat → List Sym → Int → List Sym × Int
 | 0,l,p=>(l,p)
 | n + 1,l,p=>fillS b n (l ++ [⟨122 :: ofV b p [[97],[98],[122]],[],0⟩]) (p + 1)
def bentS (b:List Int) (s:Sig) (p:Int):Sig × Int:=
 if s.syms.length = 0 then (s,p) else
 if 0 < pickV b p 8 then (s,p + 1) else
 let k:=(pickV b (p + 1) s.syms.length).toNat
 let c:=pickV b (p + 2) 5
 let x:=s.syms.getD k ⟨[],[],0⟩
 if c = 0 then (⟨s.syms.set k ⟨ofV b (p + 3) [[],[65],[97,98,99],[122,122],[97]],x.args,x.sort⟩⟩,p + 4) else
 if c = 1 then (⟨s.syms.set k ⟨x.name,x.args ++ [numV b (p + 3) [0,2,-1,1]],x.sort⟩⟩,p + 4) else
 if c = 2 then (⟨s.syms.set k ⟨x.name,x.args,numV b (p + 3) [1,2,-1,0]⟩⟩,p + 4) else
 if c = 3 then (⟨s.syms ++ [x]⟩,p + 3) else
 (⟨(fillS b (8 - s.syms.length) s.syms (p + 3)).1⟩,(fillS b (8 - s.syms.length) s.syms (p + 3)).2)
theorem fillS_b (b:List Int):∀ (n:Nat) (l:List Sym) (p:Int),(fillS b n l p).2 = p + n ∧ (fillS b n l p).1.length = l.length + n
 | 0,_,_=>by simp [fillS]
 | n + 1,l,p=>by
   obtain ⟨h1,h2⟩:=fillS_b b n (l ++ [⟨122 :: ofV b p [[97],[98],[122]],[],0⟩]) (p + 1)
   simp only [fillS,h1,h2,List.length_append,List.length_singleton]
   omega
theorem bentS_b (b:List Int) (s:Sig) (p:Int):p ≤ (bentS b s p).2 ∧ (bentS b s p).2 ≤ p + 20:=by
 have h1:=(fillS_b b (8 - s.syms.length) s.syms (p + 3)).1
 unfold bentS
 simp only
 repeat' split
 all_goals (simp only [h1]; omega)
def wordsS (s:Sig) (sort:Int) (deep:Nat):List Sym:=s.syms.filter fun x=>decide (x.sort = sort) && (decide (1 < deep) || decide (x.args.length = 0))
def anyT (b:List Int) (s:Sig):Nat → Int → Int → Term × Int
 | 0,_,p=>(.mk [113] [],p)
 | d + 1,sort,p=>
   if (wordsS s sort (d + 1)).length = 0 then (.mk [113] [],p) else
   let x:=(wordsS s sort (d + 1)).getD (pickV b p (wordsS s sort (d + 1)).length).toNat sym0
   (.mk x.name (mapS (anyT b s d) x.args (p + 1)).1,(mapS (anyT b s d) x.args (p + 1)).2)
theorem wordsS_mem {s:Sig} {sort:Int} {d:Nat} {i:Nat} (h:SigFair s):((wordsS s sort d).getD i sym0).args.length ≤ 2 ∧ (i < (wordsS s sort d).length → nameOk ((wordsS s sort d).getD i sym0).name = true ∧ (d ≤ 1 → ((wordsS s sort d).getD i sym0).args = [])):=by
 rw [List.getD_eq_getElem?_getD]
 cases hx:(wordsS s sort d)[i]? with
 | none=>simp only [Option.getD_none]; exact ⟨by decide,fun hi=>by rw [List.getElem?_eq_getElem hi] at hx; cases hx⟩
 | some x=>
   simp only [Option.getD_some]
   have hm:=List.mem_of_getElem? hx
   rw [wordsS,List.mem_filter] at hm
   obtain ⟨h1,h2⟩:=h.2 x hm.1
   refine ⟨h1,fun _=>⟨h2,fun hd=>?_⟩⟩
   have:=hm.2
   simp only [Bool.and_eq_true,Bool.or_eq_true,decide_eq_true_eq] at this
   rcases this.2 with h3 | h3
   ·omega
   ·exact List.eq_nil_of_length_eq_zero h3
theorem two_pow_pos (d:Nat):(1:Int) ≤ 2 ^ d ∧ (2:Int) ^ (d + 1) = 2 * 2 ^ d:=by
 have h:=Nat.one_le_two_pow (n:=d)
 have e:(2:Int) ^ d = ((2 ^ d:Nat):Int):=by simp
 exact ⟨by omega,by rw [Int.pow_succ,Int.mul_comm]⟩
theorem anyT_b {b:List Int} {s:Sig} (h:SigFair s):∀ (d:Nat) (sort p:Int),p ≤ (anyT b s d sort p).2 ∧ (anyT b s d sort p).2 ≤ p + (2 ^ d - 1)
 | 0,_,p=>by simp [anyT]
 | d + 1,sort,p=>by
   have ih:=anyT_b (b:=b) h d
   obtain ⟨hp,hp2⟩:=two_pow_pos d
   simp only [anyT]
   split
   ·simp only; omega
   ·have h1:=(wordsS_mem (sort:=sort) (d:=d + 1) (i:=(pickV b p (wordsS s sort (d + 1)).length).toNat) h).1
    generalize (wordsS s sort (d + 1)).getD (pickV b p (wordsS s sort (d + 1)).length).toNat sym0 = x at h1 ⊢
    have h2:=mapS_b (f:=anyT b s d) (c:=2 ^ d - 1) (fun a p=>ih a p) x.args (p + 1)
    have h3:(x.args.length:Int) * (2 ^ d - 1) ≤ 2 * (2 ^ d - 1):=Int.mul_le_mul_of_nonneg_right (by omega) (by omega)
    simp only
    omega
theorem tShapes_of {d:Nat}:∀ {ts:List Term},(∀ t ∈ ts,tShape t d = true) → tShapes ts d = true
 | [],_=>by simp [tShapes]
 | t :: ts,h=>by
   simp only [tShapes,h t (by simp),Bool.true_and]
   exact tShapes_of fun u hu=>h u (by simp [hu])
theorem anyT_shape {b:List Int} (hb:OkB b) {s:Sig} (h:SigFair s):∀ (d:Nat) (sort p:Int),0 ≤ p → 1 ≤ d → tShape (anyT b s d sort p).1 d = true
 | 0,_,_,_,hd=>by omega
 | d + 1,sort,p,hp,_=>by
   simp only [anyT]
   split
   ·simp only [tShape,tShapes,List.length_nil]
    decide
   ·rename_i hne
    have hn:1 ≤ (wordsS s sort (d + 1)).length:=by omega
    obtain ⟨k,e,hk⟩:=pickN_b hb (p:=p) hp hn
    have h1:=wordsS_mem (sort:=sort) (d:=d + 1) (i:=k) h
    rw [e,Int.toNat_natCast]
    generalize (wordsS s sort (d + 1)).getD k sym0 = x at h1 ⊢
    obtain ⟨h2,h3⟩:=h1
    obtain ⟨h3,h4⟩:=h3 hk
    simp only [tShape,h3,Bool.true_and,Bool.and_eq_true,decide_eq_true_eq]
    refine ⟨by rw [mapS_len]; exact h2,?_⟩
    rcases Nat.eq_zero_or_pos d with rfl | hd
    ·rw [h4 (Nat.le_refl 1)]
     simp [mapS,tShapes]
    ·refine tShapes_of fun t ht=>?_
     have key:∀ (as:List Int) (q:Int),0 ≤ q → ∀ t ∈ (mapS (anyT b s d) as q).1,tShape t d = true:=by
      intro as
      induction as with
      | nil=>intro q _ t h; simp [mapS] at h
      | cons a as ih=>
        intro q hq t ht
        simp only [mapS,List.mem_cons] at ht
        rcases ht with rfl | ht
        ·exact anyT_shape hb h d a q hq hd
        ·exact ih _ (by have:=(anyT_b (b:=b) h d a q).1; omega) t ht
     exact key _ _ (by omega) t ht
def someT (b:List Int) (s:Sig) (p:Int):Term × Int:=
 let r:=anyT b s (numV b (p + 1) [2,3,1,4]).toNat (pickV b p 2) (p + 2)
 let c:=pickV b r.2 48
 if c = 0 then (.mk (ofV b (r.2 + 1) [[],[65],[97,98,99],[102]]) r.1.kids,r.2 + 2) else
 if c = 1 then (.mk r.1.name (r.1.kids ++ [r.1]),r.2 + 1) else
 if c = 2 then (.mk r.1.name (r.1.kids ++ [r.1,r.1]),r.2 + 1) else (r.1,r.2 + 1)
def putGo (t:Term) (n:Int):List Term → List Int → Bool → List Term × List Int
 | u :: us,k :: ks,done=>
   let now:=!done && !sLess (termText u) (termText t)
   let own:=decide (termText u ≠ termText t)
   let r:=putGo t n us ks (done || now)
   ((if now then [t] else []) ++ ((if own then [u] else []) ++ r.1),(if now then [n] else []) ++ ((if own then [k] else []) ++ r.2))
 | _,_,done=>if done then ([],[]) else ([t],[n])
def putA (a:Atom) (t:Term) (n:Int):Atom:=⟨a.kind,term0,term0,(putGo t n a.nums a.times false).1,(putGo t n a.nums a.times false).2,a.bound,a.strict⟩
theorem putGo_len (t:Term) (n:Int):∀ (us:List Term) (ks:List Int) (d:Bool),(putGo t n us ks d).1.length = (putGo t n us ks d).2.length ∧ (putGo t n us ks d).1.length ≤ us.length + (if d then 0 else 1)
 | u :: us,k :: ks,d=>by
   simp only [putGo]
   generalize decide (termText u ≠ termText t) = o
   generalize sLess (termText u) (termText t) = q
   have h:=putGo_len t n us ks (d || (!d && !q))
   generalize putGo t n us ks (d || (!d && !q)) = r at h
   cases d <;> cases q <;> cases o <;> simp at h ⊢ <;> omega
 | [],_,d=>by cases d <;> simp [putGo]
 | _ :: _,[],d=>by cases d <;> simp [putGo]
def sumStep (b:List Int) (s:Sig) (a:Atom) (p:Int):Atom × Int:=
 let r:=anyT b s (numV b p [1,1,2]).toNat 1 (p + 1)
 (putA a r.1 (numV b r.2 [1,-1,1,-1,2,-2]),r.2 + 1)
def anyA (b:List Int) (s:Sig) (p:Int):Atom × Int:=
 if pickV b p 2 = 0 then
  let x:=anyT b s (numV b (p + 2) [1,2]).toNat (pickV b (p + 1) 2) (p + 3)
  let y:=anyT b s (numV b x.2 [1,1,2]).toNat (pickV b (p + 1) 2) (x.2 + 1)
  (⟨1,x.1,y.1,[],[],0,false⟩,y.2)
 else iterS (sumStep b s) (numV b (p + 3) [1,2,2,3]).toNat ⟨2,term0,term0,[],[],numV b (p + 1) [0,1,-1,2,3,-4],decide (pickV b (p + 2) 3 = 0)⟩ (p + 4)
end Go.Mod
namespace Go.Mod
open Go.Eng
theorem putGo_sh {P:Term → Prop} {t:Term} {n:Int} (ht:P t):∀ (us:List Term) (ks:List Int) (d:Bool),(∀ u ∈ us,P u) → ∀ u ∈ (putGo t n us ks d).1,P u
 | u :: us,k :: ks,d,h,v,hv=>by
   have ih:=putGo_sh (n:=n) ht us ks (d || (!d && !sLess (termText u) (termText t))) (fun w hw=>h w (by simp [hw]))
   simp only [putGo,List.mem_append] at hv
   rcases hv with hv | hv | hv
   ·split at hv
    ·simp only [List.mem_singleton] at hv; rw [hv]; exact ht
    ·simp at hv
   ·split at hv
    ·simp only [List.mem_singleton] at hv; rw [hv]; exact h u (by simp)
    ·simp at hv
   ·exact ih v hv
 | [],_,d,_,v,hv=>by
   cases d <;> simp [putGo] at hv
   rw [hv]; exact ht
 | _ :: _,[],d,_,v,hv=>by
   cases d <;> simp [putGo] at hv
   rw [hv]; exact ht
theorem tShape_le {t:Term}:∀ {d e:Nat},d ≤ e → tShape t d = true → tShape t e = true:=by
 intro d e h
 induction e with
 | zero=>intro ht; obtain rfl:d = 0:=by omega
         exact ht
 | succ e ih=>
   intro ht
   rcases Nat.lt_or_ge d (e + 1) with h1 | h1
   ·exact tShape_up t e (ih (by omega) ht)
   ·obtain rfl:d = e + 1:=by omega
    exact ht
structure SumFair (m:Nat) (a:Atom):Prop where
 len:a.nums.length = a.times.length
 few:a.nums.length ≤ m
 sh:∀ t ∈ a.nums,tShape t 4 = true
theorem putA_fair {m:Nat} {a:Atom} {t:Term} (h:SumFair m a) (ht:tShape t 4 = true) (n:Int):SumFair (m + 1) (putA a t n):=by
 obtain ⟨h1,h2⟩:=putGo_len t n a.nums a.times false
 exact ⟨h1,by have:=h.few; simp only [Bool.false_eq_true,if_false] at h2; simp only [putA]; omega,putGo_sh (P:=fun t=>tShape t 4 = true) ht _ _ _ h.sh⟩
theorem deep_of {b:List Int} (hb:OkB b) {p:Int} (h1:0 ≤ p) {l:List Int} (hl:l ≠ []) (hd:∀ x ∈ l,1 ≤ x ∧ x ≤ 4):∃ d:Nat,numV b p l = d ∧ 1 ≤ d ∧ d ≤ 4:=by
 have:=hd _ (numV_mem hb h1 hl)
 exact ⟨(numV b p l).toNat,by omega,by omega,by omega⟩
theorem two_pow_le {d e:Nat} (h:d ≤ e):(2:Int) ^ d ≤ 2 ^ e:=by
 have:=Nat.pow_le_pow_right (n:=2) (by omega) h
 have e1:(2:Int) ^ d = ((2 ^ d:Nat):Int):=by simp
 have e2:(2:Int) ^ e = ((2 ^ e:Nat):Int):=by simp
 rw [e1,e2]
 exact Int.ofNat_le.2 this
theorem anyT_b4 {b:List Int} {s:Sig} (h:SigFair s) {d:Nat} (hd:d ≤ 4) (sort p:Int):p ≤ (anyT b s d sort p).2 ∧ (anyT b s d sort p).2 ≤ p + 15:=by
 have h1:=anyT_b (b:=b) h d sort p
 have h2:=two_pow_le hd
 omega
theorem sumStep_b {b:List Int} (hb:OkB b) {s:Sig} (h:SigFair s) {a:Atom} {p:Int} (hp:0 ≤ p):p ≤ (sumStep b s a p).2 ∧ (sumStep b s a p).2 ≤ p + 17:=by
 obtain ⟨d,e,h1,h2⟩:=deep_of hb hp (l:=[1,1,2]) (by simp) (by decide)
 have:=anyT_b4 (b:=b) h h2 1 (p + 1)
 simp only [sumStep,e,Int.toNat_natCast]
 omega
theorem sumStep_fair {b:List Int} (hb:OkB b) {s:Sig} (h:SigFair s) {m:Nat} {a:Atom} {p:Int} (hp:0 ≤ p) (ha:SumFair m a):SumFair (m + 1) (sumStep b s a p).1:=by
 obtain ⟨d,e,h1,h2⟩:=deep_of hb hp (l:=[1,1,2]) (by simp) (by decide)
 simp only [sumStep,e,Int.toNat_natCast]
 exact putA_fair ha (tShape_le h2 (anyT_shape hb h d 1 (p + 1) (by omega) h1)) _
theorem sums_b {b:List Int} (hb:OkB b) {s:Sig} (h:SigFair s):∀ (n m:Nat) (a:Atom) (p:Int),0 ≤ p → SumFair m a → p ≤ (iterS (sumStep b s) n a p).2 ∧ (iterS (sumStep b s) n a p).2 ≤ p + n * 17 ∧ SumFair (m + n) (iterS (sumStep b s) n a p).1
 | 0,m,a,p,hp,ha=>by simpa [iterS] using ha
 | n + 1,m,a,p,hp,ha=>by
   have h1:=sumStep_b hb h (a:=a) hp
   have h2:=sums_b hb h n (m + 1) (sumStep b s a p).1 (sumStep b s a p).2 (by omega) (sumStep_fair hb h hp ha)
   simp only [iterS]
   refine ⟨by omega,by omega,?_⟩
   have:=h2.2.2
   rwa [show m + 1 + n = m + (n + 1) by omega] at this
theorem anyA_b {b:List Int} (hb:OkB b) {s:Sig} (h:SigFair s) {p:Int} (hp:0 ≤ p):p ≤ (anyA b s p).2 ∧ (anyA b s p).2 ≤ p + 60 ∧ SumFair 3 (anyA b s p).1:=by
 unfold anyA
 split
 ·obtain ⟨d,e,h1,h2⟩:=deep_of hb (p:=p + 2) (by omega) (l:=[1,2]) (by simp) (by decide)
  have k1:=anyT_b4 (b:=b) h h2 (pickV b (p + 1) 2) (p + 3)
  simp only [e,Int.toNat_natCast]
  generalize anyT b s d (pickV b (p + 1) 2) (p + 3) = x at k1 ⊢
  obtain ⟨d2,e2,h3,h4⟩:=deep_of hb (p:=x.2) (by omega) (l:=[1,1,2]) (by simp) (by decide)
  have k2:=anyT_b4 (b:=b) h h4 (pickV b (p + 1) 2) (x.2 + 1)
  simp only [e2,Int.toNat_natCast]
  exact ⟨by omega,by omega,⟨rfl,by simp,by simp⟩⟩
 ·have hm:=numV_mem hb (p:=p + 3) (l:=[1,2,2,3]) (by omega) (by simp)
  have hk:(numV b (p + 3) [1,2,2,3]).toNat ≤ 3:=by
   simp only [List.mem_cons,List.not_mem_nil,or_false] at hm
   omega
  have:=sums_b hb h (numV b (p + 3) [1,2,2,3]).toNat 0 ⟨2,term0,term0,[],[],numV b (p + 1) [0,1,-1,2,3,-4],decide (pickV b (p + 2) 3 = 0)⟩ (p + 4) (by omega) ⟨rfl,by simp,by simp⟩
  refine ⟨by omega,by omega,this.2.2.len,?_,this.2.2.sh⟩
  have:=this.2.2.few
  omega
def someA (b:List Int) (s:Sig) (p:Int):Atom × Int:=
 let r:=anyA b s p
 let a:=r.1
 let c:=pickV b r.2 80
 if c = 0 then (⟨numV b (r.2 + 1) [0,3,1,2],a.A,a.B,a.nums,a.times,a.bound,a.strict⟩,r.2 + 2) else
 if c = 1 then (⟨a.kind,a.A,a.B,a.nums,a.times,numV b (r.2 + 1) [1001,-9223372036854775808,5],a.strict⟩,r.2 + 2) else
 if c = 2 then (⟨a.kind,(someT b s (r.2 + 1)).1,a.B,a.nums,a.times,a.bound,a.strict⟩,(someT b s (r.2 + 1)).2) else
 if c = 3 then (if 0 < a.times.length then (⟨a.kind,a.A,a.B,a.nums,a.times.set 0 (numV b (r.2 + 1) [0,51,-9223372036854775808]),a.bound,a.strict⟩,r.2 + 2) else (a,r.2 + 1)) else
 if c = 4 then (⟨a.kind,a.A,a.B,a.nums ++ [(anyT b s 1 1 (r.2 + 1)).1],a.times,a.bound,a.strict⟩,(anyT b s 1 1 (r.2 + 1)).2) else (a,r.2 + 1)
def anyF (b:List Int) (atoms:List Atom):Nat → Int → Form × Int
 | 0,p=>(form0,p)
 | d + 1,p=>
   if d = 0 then (.mk 1 ⟨atoms.getD (pickV b p atoms.length).toNat atom0,decide (pickV b (p + 1) 3 = 0)⟩ [],p + 2) else
   if pickV b p 4 = 0 then (.mk 1 ⟨atoms.getD (pickV b (p + 1) atoms.length).toNat atom0,decide (pickV b (p + 2) 3 = 0)⟩ [],p + 3) else
   let k:=numV b (p + 1) [3,4,4,5,3,6,2]
   let r:=mapS (fun (_:Unit) q=>anyF b atoms d q) (List.replicate (kidsOf k).toNat ()) (p + 2)
   (.mk k lit0 r.1,r.2)
mutual
def nodes:Form → Nat
 | .mk _ _ ks=>1 + nodess ks
def nodess:List Form → Nat
 | []=>0
 | t :: ts=>nodes t + nodess ts
end
def toldStep (b:List Int) (s:Sig) (out:List Atom) (p:Int):List Atom × Int:=
 (if bothOk s (plain (out ++ [(anyA b s p).1])) then (if atomIdx out (anyA b s p).1 < 0 then out ++ [(anyA b s p).1] else out) else out,(anyA b s p).2)
def atomAA:Atom:=⟨1,.mk [97] [],.mk [97] [],[],[],0,false⟩
def toldS (b:List Int) (s:Sig) (p:Int):List Atom × Int:=
 let r:=iterS (toldStep b s) (numV b p [2,3,4,5,1]).toNat [] (p + 1)
 (if r.1.length = 0 then r.1 ++ [atomAA] else r.1,r.2)
def drawF (b:List Int) (p:Int):Sig × Form × Int:=
 let s:=(sigS b p).1
 let a:=toldS b s (p + 1)
 let r:=anyF b a.1 (numV b a.2 [3,4,2,3,1]).toNat (a.2 + 1)
 (s,r.1,r.2)
def someF (b:List Int) (p:Int):Sig × Form × Int:=
 let r:=drawF b p
 let f:=r.2.1
 let q:=r.2.2
 let c:=pickV b q 64
 if c = 0 then (r.1,.mk (numV b (q + 1) [0,7,1,2,3]) f.lit f.kids,q + 2) else
 if c = 1 then (r.1,.mk f.kind f.lit (f.kids ++ [f]),q + 1) else
 if c = 2 then (r.1,.mk f.kind ⟨(someA b r.1 (q + 1)).1,false⟩ f.kids,(someA b r.1 (q + 1)).2) else
 if c = 3 then ((bentS b (bentS b r.1 (q + 1)).1 (bentS b r.1 (q + 1)).2).1,f,(bentS b (bentS b r.1 (q + 1)).1 (bentS b r.1 (q + 1)).2).2) else (r.1,f,q + 1)
def valsS (b:List Int) (n:Nat) (p:Int):List Bool × Int:=
 let r:=mapS (fun (_:Unit) q=>(decide (pickV b q 2 = 0),q + 1)) (List.replicate n ()) p
 (if pickV b r.2 30 = 0 then r.1 ++ [true] else r.1,r.2 + 1)
def formStep (b:List Int) (told:List Atom) (out:List Form) (p:Int):List Form × Int:=
 let r:=anyF b told (numV b p [2,3,1]).toNat (p + 1)
 (out ++ [r.1],r.2)
def fillF (b:List Int) (told:List Atom):Nat → List Form → Int → List Form × Int
 | 0,l,p=>(l,p)
 | n + 1,l,p=>fillF b told n (l ++ [(anyF b told 1 p).1]) (anyF b told 1 p).2
def listF (b:List Int) (p:Int):Sig × List Form × Int:=
 let s:=(sigS b p).1
 let a:=toldS b s (p + 1)
 let r:=iterS (formStep b a.1) (numV b a.2 [2,3,1,4,0]).toNat [] (a.2 + 1)
 let c:=pickV b r.2 48
 if c = 0 then (s,r.1 ++ [(someF b (r.2 + 1)).2.1],(someF b (r.2 + 1)).2.2) else
 if c = 1 then (s,(fillF b a.1 (6 - r.1.length) r.1 (r.2 + 1)).1,(fillF b a.1 (6 - r.1.length) r.1 (r.2 + 1)).2) else
 if c = 2 then ((bentS b (bentS b s (r.2 + 1)).1 (bentS b s (r.2 + 1)).2).1,r.1,(bentS b (bentS b s (r.2 + 1)).1 (bentS b s (r.2 + 1)).2).2) else (s,r.1,r.2 + 1)
def drawCnfVals (b:List Int):List Form × List Bool:=((listF b 0).2.1,(valsS b (withAtomss [] (listF b 0).2.1).length (listF b 0).2.2).1)
end Go.Mod
