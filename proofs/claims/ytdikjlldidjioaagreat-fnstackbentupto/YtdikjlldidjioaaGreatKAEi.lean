/-
  The stacks that are drawn, in plain Lean: how big they are. No program is walked here.
-/
import Derived.Test.YtdikjlldidjioaaGreatKAEb
import Derived.Test.YtdikjlldidjioaaGreatKAEa
set_option linter.unusedVariables false
set_option linter.unusedSimpArgs false
namespace Go.Mod
open Go.Eng
set_option maxRecDepth 100000
mutual
theorem ctT_le:∀ (t:Term) (d:Nat),tShape t d = true → ctT t + 1 ≤ 2 ^ d
 | .mk _ ks,0,h=>by simp [tShape] at h
 | .mk _ ks,d + 1,h=>by
   simp only [tShape,Bool.and_eq_true,decide_eq_true_eq] at h
   have h1:=ctTs_le ks d h.2.2
   have h2:ks.length * (2 ^ d - 1) ≤ 2 * (2 ^ d - 1):=Nat.mul_le_mul_right _ h.2.1
   have h3:1 ≤ 2 ^ d:=Nat.one_le_two_pow
   rw [ctT,Nat.pow_succ]
   omega
theorem ctTs_le:∀ (ts:List Term) (d:Nat),tShapes ts d = true → ctTs ts ≤ ts.length * (2 ^ d - 1)
 | [],_,_=>by simp [ctTs]
 | t :: ts,d,h=>by
   simp only [tShapes,Bool.and_eq_true] at h
   have h1:=ctT_le t d h.1
   have h2:=ctTs_le ts d h.2
   rw [ctTs,List.length_cons,Nat.add_mul,Nat.one_mul]
   omega
end
theorem ctT_isTerm {t:Term} (h:isTerm t = true):ctT t ≤ 15:=by
 have:=ctT_le t 4 (isTerm_tShape h)
 omega
theorem ctTs_isTerm:∀ (ts:List Term),(∀ t ∈ ts,isTerm t = true) → ctTs ts ≤ ts.length * 15
 | [],_=>by simp [ctTs]
 | t :: ts,h=>by
   have h1:=ctT_isTerm (h t (by simp))
   have h2:=ctTs_isTerm ts fun x hx=>h x (by simp [hx])
   rw [ctTs,List.length_cons]
   omega
theorem ctT_none {t:Term} (h:isNone t = true):ctT t = 1:=by
 cases t with
 | mk n ks=>
   simp only [isNone,Bool.and_eq_true,decide_eq_true_eq] at h
   have h2:ks = []:=h.2
   rw [ctT,h2,ctTs]
theorem ctLit_wf {a:Atom} (h:atomWf a = true) (no:Bool):ctLit ⟨a,no⟩ ≤ 80:=by
 unfold ctLit
 rcases atomWf_kind h with k | k
 ·obtain ⟨h1,h2⟩:=atomWf_eq h k
  have a1:=ctT_isTerm h1
  have a2:=ctT_isTerm h2
  rw [atomWf,if_pos k] at h
  simp only [Bool.and_eq_true,decide_eq_true_eq] at h
  have e:a.nums = []:=List.length_eq_zero_iff.1 (by omega)
  simp only [e,ctTs]
  omega
 ·obtain ⟨h1,h2,h3,h4,_,_⟩:=atomWf_sum h k
  have hn:=atomTerms_ok h
  simp only [atomTerms,k,if_neg (show ¬ (2:Int) = 1 by decide)] at hn
  have a1:=ctT_none h1
  have a2:=ctT_none h2
  have a3:=ctTs_isTerm a.nums hn.2
  simp only
  omega
theorem ctLit_0:ctLit lit0 = 6:=rfl
theorem ctLit_a0 (no:Bool):ctLit ⟨atom0,no⟩ = 6:=rfl
def AllWf (l:List Atom):Prop:=∀ a ∈ l,atomWf a = true
theorem ctLit_told {l:List Atom} (h:AllWf l) (i:Nat) (no:Bool):ctLit ⟨l.getD i atom0,no⟩ ≤ 80:=by
 rcases Classical.em (i < l.length) with hi | hi
 ·have e:l.getD i atom0 = l[i]:=by simp [List.getD,hi]
  rw [e]
  exact ctLit_wf (h _ (List.getElem_mem hi)) no
 ·have e:l.getD i atom0 = atom0:=by simp [List.getD,List.getElem?_eq_none (Nat.le_of_not_lt hi)]
  rw [e,ctLit_a0]
  omega
theorem anyF_ct {b:List Int} (hb:OkB b) {atoms:List Atom} (hw:AllWf atoms):∀ (d:Nat) (p:Int),0 ≤ p → 1 ≤ d → ctForm (anyF b atoms d p).1 + 81 ≤ 81 * 2 ^ d
 | 0,p,_,h=>by omega
 | d + 1,p,hp,_=>by
   have ih:=anyF_ct hb hw d
   have hN:(2:Nat) ^ (d + 1) = 2 * 2 ^ d:=by rw [Nat.pow_succ]; omega
   have hN1:=Nat.one_le_two_pow (n:=d)
   simp only [anyF]
   split
   ·have:=ctLit_told hw (pickV b p atoms.length).toNat (decide (pickV b (p + 1) 3 = 0))
    simp only [ctForm,ctForms]
    omega
   ·rename_i hd0
    have hd1:1 ≤ d:=by omega
    have hd2:2 ≤ 2 ^ d:=by
     have:=Nat.pow_le_pow_right (n:=2) (by omega) hd1
     omega
    split
    ·have:=ctLit_told hw (pickV b (p + 1) atoms.length).toNat (decide (pickV b (p + 2) 3 = 0))
     simp only [ctForm,ctForms]
     omega
    ·have hk:=kinds_mem hb (p:=p + 1) (by omega)
     generalize numV b (p + 1) [3,4,4,5,3,6,2] = k at hk ⊢
     have key:∀ (n:Nat) (q:Int),0 ≤ q → ctForms (mapS (fun (_:Unit) q=>anyF b atoms d q) (List.replicate n ()) q).1 + n * 81 ≤ n * (81 * 2 ^ d):=by
      intro n
      induction n with
      | zero=>intro q hq; simp [mapS,ctForms]
      | succ n ihn=>
        intro q hq
        have a3:=ih q hq hd1
        have a1:=(anyF_b hb (atoms:=atoms) d q hq).1
        have b3:=ihn (anyF b atoms d q).2 (by omega)
        simp only [List.replicate_succ,mapS,ctForms]
        have e2:(n + 1) * (81 * 2 ^ d) = n * (81 * 2 ^ d) + 81 * 2 ^ d:=by rw [Nat.add_mul,Nat.one_mul]
        omega
     have c3:=key (kidsOf k).toNat (p + 2) (by omega)
     simp only [ctForm,ctLit_0]
     have e3:(kidsOf k).toNat = 1 ∨ (kidsOf k).toNat = 2:=by omega
     rcases e3 with e3 | e3 <;> (rw [e3] at c3 ⊢; omega)
theorem bothOk_wf {s:Sig} {l:List Atom} (h:bothOk s (plain l) = true):AllWf l:=by
 intro a ha
 simp only [bothOk,Bool.and_eq_true] at h
 have h1:=List.all_eq_true.1 h.1.1.2 ⟨a,false⟩ (List.mem_map.2 ⟨a,ha,rfl⟩)
 simp only [atomOk,Bool.and_eq_true] at h1
 exact h1.2.1
theorem toldStep_wf {b:List Int} {s:Sig} {l:List Atom} {p:Int} (h:AllWf l):AllWf (toldStep b s l p).1:=by
 simp only [toldStep]
 split
 ·rename_i hok
  have hw:=bothOk_wf hok
  split
  ·exact hw
  ·exact h
 ·exact h
theorem tolds_wf {b:List Int} {s:Sig}:∀ (n:Nat) (l:List Atom) (p:Int),AllWf l → AllWf (iterS (toldStep b s) n l p).1
 | 0,l,p,h=>h
 | n + 1,l,p,h=>by
   rw [iterS]
   exact tolds_wf n _ _ (toldStep_wf h)
theorem toldS_wf {b:List Int} {s:Sig} {p:Int}:AllWf (toldS b s p).1:=by
 have h:=tolds_wf (b:=b) (s:=s) (numV b p [2,3,4,5,1]).toNat [] (p + 1) (by intro a ha; simp at ha)
 simp only [toldS]
 split
 ·intro a ha
  rcases List.mem_append.1 ha with ha | ha
  ·exact h a ha
  ·simp only [List.mem_cons,List.not_mem_nil,or_false] at ha
   subst ha
   decide
 ·exact h
def stackNew (s:Sig):Stack:=if sigOk s then ⟨s,[[]]⟩ else ⟨⟨[]⟩,[]⟩
def stackPush (k:Stack):Stack × Bool:=
 if stackOk k then (if 4 ≤ k.levels.length then (k,false) else (⟨k.sig,k.levels ++ [[]]⟩,true)) else (⟨⟨[]⟩,[]⟩,false)
def onlyIf (x:Stack × Bool) (k:Stack):Stack:=if x.2 then x.1 else k
def stkStep (b:List Int) (told:List Atom) (k:Stack) (q:Int):Stack × Int:=
 if pickV b q 4 = 0 then (onlyIf (stackPush k) k,q + 1) else
 if pickV b q 4 = 1 then (if pickV b (q + 1) 2 = 0 then (onlyIf (stackPop k) k,q + 2) else (k,q + 2)) else
 let f:=anyF b told (numV b (q + 1) [1,2]).toNat (q + 2)
 (onlyIf (stackTell k f.1) k,f.2)
theorem ctL_app {α:Type} (c:α → Nat):∀ (a b:List α),ctL c (a ++ b) = ctL c a + ctL c b
 | [],b=>by simp [ctL]
 | x :: a,b=>by simp only [List.cons_append,ctL,ctL_app c a b]; omega
theorem ctL_take_le {α:Type} (c:α → Nat):∀ (n:Nat) (l:List α),ctL c (l.take n) ≤ ctL c l
 | 0,l=>by simp [ctL]
 | n + 1,[]=>by simp [ctL]
 | n + 1,x :: l=>by
   have:=ctL_take_le c n l
   simp only [List.take_succ_cons,ctL]
   omega
theorem push_ct (k:Stack):ctStack (onlyIf (stackPush k) k) ≤ ctStack k:=by
 rcases Classical.em (stackOk k = true) with h1 | h1
 ·rcases Classical.em (4 ≤ k.levels.length) with h2 | h2
  ·simp [onlyIf,stackPush,h1,h2]
  ·have e:ctL ctForms (k.levels ++ [[]]) = ctL ctForms k.levels:=by rw [ctL_app]; simp [ctL,ctForms]
   simp [onlyIf,stackPush,h1,h2,ctStack,e]
 ·simp [onlyIf,stackPush,h1]
theorem pop_ct (k:Stack):ctStack (onlyIf (stackPop k) k) ≤ ctStack k:=by
 have:=ctL_take_le ctForms (k.levels.length - 1) k.levels
 rcases Classical.em (stackOk k = true) with h1 | h1
 ·rcases Classical.em (k.levels.length = 1) with h2 | h2
  ·simp [onlyIf,stackPop,h1,h2]
  ·simp [onlyIf,stackPop,h1,h2,ctStack]
   exact this
 ·simp [onlyIf,stackPop,h1]
theorem tellIf_ct (k:Stack) (f:Form):ctStack (onlyIf (stackTell k f) k) ≤ ctStack k + ctForm f:=by
 have:=tell_ct k f
 unfold onlyIf
 split
 ·exact this
 ·omega
theorem stkStep_b {b:List Int} (hb:OkB b) {told:List Atom} (hw:AllWf told) {k:Stack} {q:Int} (hq:0 ≤ q):q ≤ (stkStep b told k q).2 ∧ (stkStep b told k q).2 ≤ q + 14 ∧ ctStack (stkStep b told k q).1 ≤ ctStack k + 243:=by
 have h1:=push_ct k
 have h2:=pop_ct k
 unfold stkStep
 split
 ·exact ⟨by simp only; omega,by simp only; omega,by simp only; omega⟩
 ·split
  ·split
   ·exact ⟨by simp only; omega,by simp only; omega,by simp only; omega⟩
   ·exact ⟨by simp only; omega,by simp only; omega,by simp only; omega⟩
  ·obtain ⟨d,e,d1,d2⟩:∃ d:Nat,numV b (q + 1) [1,2] = d ∧ 1 ≤ d ∧ d ≤ 2:=by
    have hm:=numV_mem hb (p:=q + 1) (l:=[1,2]) (by omega) (by simp)
    simp only [List.mem_cons,List.not_mem_nil,or_false] at hm
    exact ⟨(numV b (q + 1) [1,2]).toNat,by omega,by omega,by omega⟩
   have g1:=anyF_b hb (atoms:=told) d (q + 2) (by omega)
   have g2:=anyF_ct hb hw d (q + 2) (by omega) d1
   have g3:81 * 2 ^ d ≤ 81 * 2 ^ 2:=Nat.mul_le_mul_left _ (Nat.pow_le_pow_right (by omega) d2)
   have g4:=two_pow_le d2
   have h3:=tellIf_ct k (anyF b told d (q + 2)).1
   simp only [e,Int.toNat_natCast]
   have e4:(2:Int) ^ 2 = 4:=by decide
   exact ⟨by omega,by omega,by omega⟩
theorem stks_b {b:List Int} (hb:OkB b) {told:List Atom} (hw:AllWf told):∀ (n:Nat) (k:Stack) (q:Int),0 ≤ q → q ≤ (iterS (stkStep b told) n k q).2 ∧ (iterS (stkStep b told) n k q).2 ≤ q + n * 14 ∧ ctStack (iterS (stkStep b told) n k q).1 ≤ ctStack k + n * 243
 | 0,k,q,_=>by simp [iterS]
 | n + 1,k,q,hq=>by
   have h1:=stkStep_b hb hw (k:=k) hq
   have h2:=stks_b hb hw n (stkStep b told k q).1 (stkStep b told k q).2 (by omega)
   rw [iterS]
   omega
theorem fair_ct {s:Sig} (h:SigFair s):ctL ctSym s.syms ≤ 28:=by
 obtain ⟨h1,h2⟩:=h
 have key:∀ l:List Sym,(∀ x ∈ l,x.args.length ≤ 2 ∧ nameOk x.name = true) → ctL ctSym l ≤ l.length * 4:=by
  intro l
  induction l with
  | nil=>intro _; simp [ctL]
  | cons x l ih=>
    intro hx
    have a1:=ih fun y hy=>hx y (by simp [hy])
    have a2:=(hx x (by simp)).1
    simp only [ctL,ctSym,List.length_cons]
    omega
 have:=key s.syms h2
 omega
theorem new_ct {s:Sig} (h:SigFair s):ctStack (stackNew s) ≤ 28:=by
 have:=fair_ct h
 unfold stackNew
 split
 ·simp only [ctStack,ctL,ctForms]
  omega
 ·simp [ctStack,ctL]
def stkSome (b:List Int) (p:Int):Stack × List Atom × Int:=
 let s:=(sigS b p).1
 let a:=toldS b s (p + 1)
 let r:=iterS (stkStep b a.1) (numV b a.2 [3,4,6,2,0]).toNat (stackNew s) (a.2 + 1)
 (r.1,a.1,r.2)
theorem numS_le {b:List Int} (hb:OkB b) {p:Int} (hp:0 ≤ p):∃ n:Nat,numV b p [3,4,6,2,0] = n ∧ n ≤ 6:=by
 have hm:=numV_mem hb (p:=p) (l:=[3,4,6,2,0]) hp (by simp)
 simp only [List.mem_cons,List.not_mem_nil,or_false] at hm
 exact ⟨(numV b p [3,4,6,2,0]).toNat,by omega,by omega⟩
theorem stkSome_b {b:List Int} (hb:OkB b) {p:Int} (hp:0 ≤ p):p ≤ (stkSome b p).2.2 ∧ (stkSome b p).2.2 ≤ p + 600 ∧ ctStack (stkSome b p).1 ≤ 2000 ∧ AllWf (stkSome b p).2.1 ∧ 1 ≤ (stkSome b p).2.1.length ∧ (stkSome b p).2.1.length ≤ 10:=by
 have h1:=toldS_b hb (s:=(sigS b p).1) (baseS_fair _) (p:=p + 1) (by omega)
 obtain ⟨n,e,hn⟩:=numS_le hb (p:=(toldS b (sigS b p).1 (p + 1)).2) (by omega)
 have hw:=toldS_wf (b:=b) (s:=(sigS b p).1) (p:=p + 1)
 have h2:=stks_b hb hw n (stackNew (sigS b p).1) ((toldS b (sigS b p).1 (p + 1)).2 + 1) (by omega)
 have h3:=new_ct (s:=(sigS b p).1) (baseS_fair _)
 simp only [stkSome,e,Int.toNat_natCast]
 exact ⟨by omega,by omega,by omega,hw,by omega,by omega⟩
theorem onlyIf_sig {x:Stack × Bool} {k:Stack} (h:x.2 = true → x.1.sig = k.sig):(onlyIf x k).sig = k.sig:=by
 unfold onlyIf
 split
 ·rename_i h1; exact h h1
 ·rfl
theorem push_sig (k:Stack):(onlyIf (stackPush k) k).sig = k.sig:=onlyIf_sig fun h=>by
 unfold stackPush at h ⊢
 split at h
 ·rename_i h1
  rw [if_pos h1]
  split <;> rfl
 ·simp at h
theorem pop_sig (k:Stack):(onlyIf (stackPop k) k).sig = k.sig:=onlyIf_sig fun h=>by
 unfold stackPop at h ⊢
 split at h
 ·rename_i h1
  rw [if_pos h1]
  split <;> rfl
 ·simp at h
theorem tell_sig (k:Stack) (f:Form):(onlyIf (stackTell k f) k).sig = k.sig:=onlyIf_sig fun h=>by
 unfold stackTell at h ⊢
 split at h
 ·rename_i h1
  rw [if_pos h1]
  split <;> rfl
 ·simp at h
theorem stkStep_len (b:List Int) (told:List Atom) (k:Stack) (q:Int):(stkStep b told k q).1.levels.length ≤ k.levels.length + 1:=by
 have h1:(onlyIf (stackPush k) k).levels.length ≤ k.levels.length + 1:=by
  rcases Classical.em (stackOk k = true) with h1 | h1
  ·rcases Classical.em (4 ≤ k.levels.length) with h2 | h2
   ·simp [onlyIf,stackPush,h1,h2]
   ·simp [onlyIf,stackPush,h1,h2]
  ·simp [onlyIf,stackPush,h1]
 have h2:(onlyIf (stackPop k) k).levels.length ≤ k.levels.length + 1:=by
  rcases Classical.em (stackOk k = true) with h1 | h1
  ·rcases Classical.em (k.levels.length = 1) with h2 | h2
   ·simp [onlyIf,stackPop,h1,h2]
   ·simp [onlyIf,stackPop,h1,h2]
    omega
  ·simp [onlyIf,stackPop,h1]
 have h3:∀ f,(onlyIf (stackTell k f) k).levels.length ≤ k.levels.length + 1:=by
  intro f
  have:=tellLast_len k.levels f
  rcases Classical.em (stackOk k = true) with h1 | h1
  ·rcases Classical.em (stackOk ⟨k.sig,tellLast k.levels f⟩ = true) with h2 | h2
   ·simp [onlyIf,stackTell,h1,h2]
    omega
   ·simp [onlyIf,stackTell,h1,h2]
  ·simp [onlyIf,stackTell,h1]
 unfold stkStep
 split
 ·exact h1
 ·split
  ·split
   ·exact h2
   ·simp
  ·exact h3 _
theorem stks_len (b:List Int) (told:List Atom):∀ (n:Nat) (k:Stack) (q:Int),(iterS (stkStep b told) n k q).1.levels.length ≤ k.levels.length + n
 | 0,k,q=>by simp [iterS]
 | n + 1,k,q=>by
   have h1:=stks_len b told n (stkStep b told k q).1 (stkStep b told k q).2
   have h2:=stkStep_len b told k q
   rw [iterS]
   omega
theorem stkSome_len {b:List Int} (hb:OkB b) {p:Int} (hp:0 ≤ p):(stkSome b p).1.levels.length ≤ 7:=by
 have h1:=toldS_b hb (s:=(sigS b p).1) (baseS_fair _) (p:=p + 1) (by omega)
 obtain ⟨n,e,hn⟩:=numS_le hb (p:=(toldS b (sigS b p).1 (p + 1)).2) (by omega)
 have h2:=stks_len b (toldS b (sigS b p).1 (p + 1)).1 n (stackNew (sigS b p).1) ((toldS b (sigS b p).1 (p + 1)).2 + 1)
 have h3:(stackNew (sigS b p).1).levels.length ≤ 1:=by
  unfold stackNew
  split <;> simp
 simp only [stkSome,e,Int.toNat_natCast]
 omega
theorem stkStep_sig (b:List Int) (told:List Atom) (k:Stack) (q:Int):(stkStep b told k q).1.sig = k.sig:=by
 unfold stkStep
 split
 ·exact push_sig k
 ·split
  ·split
   ·exact pop_sig k
   ·rfl
  ·exact tell_sig k _
theorem stks_sig (b:List Int) (told:List Atom):∀ (n:Nat) (k:Stack) (q:Int),(iterS (stkStep b told) n k q).1.sig = k.sig
 | 0,k,q=>rfl
 | n + 1,k,q=>by rw [iterS,stks_sig b told n,stkStep_sig]
theorem new_fair {s:Sig} (h:SigFair s):SigFair (stackNew s).sig:=by
 unfold stackNew
 split
 ·exact h
 ·exact ⟨by simp,by simp⟩
theorem stkSome_fair (b:List Int) (p:Int):SigFair (stkSome b p).1.sig:=by
 simp only [stkSome,stks_sig]
 exact new_fair (baseS_fair _)
def stkBent (b:List Int) (k:Stack) (p:Int):Stack × Int:=
 if pickV b p 40 = 0 then (⟨k.sig,[]⟩,p + 1) else
 if pickV b p 40 = 1 then (⟨k.sig,k.levels ++ List.replicate (5 - k.levels.length) []⟩,p + 1) else
 if pickV b p 40 = 2 then (⟨(bentS b (bentS b k.sig (p + 1)).1 (bentS b k.sig (p + 1)).2).1,k.levels⟩,(bentS b (bentS b k.sig (p + 1)).1 (bentS b k.sig (p + 1)).2).2) else
 if pickV b p 40 = 3 then (⟨k.sig,match k.levels with | []=>[] | x :: l=>(x ++ [form0]) :: l⟩,p + 1) else (k,p + 1)
theorem stkBent_flat {b:List Int} {k:Stack} {p:Int} (h:ctStack k ≤ 3000):(stkBent b k p).1.levels.flatten.length ≤ 8000000:=by
 have h1:=flat_len k.levels
 rw [ctStack] at h
 unfold stkBent
 split
 ·simp
 ·split
  ·rw [List.flatten_append,List.length_append]
   have:∀ n,(List.replicate n ([]:List Form)).flatten.length = 0:=by intro n; simp
   rw [this]
   omega
  ·split
   ·simp only
    omega
   ·split
    ·cases hk:k.levels with
     | nil=>simp
     | cons x l=>
       rw [hk] at h h1
       simp only [List.flatten_cons,List.length_append,List.length_cons,List.length_nil] at h1 ⊢
       omega
    ·simp only
     omega
def drawTell (c:List Int):Stack × Form:=
 let r:=stkSome c 0
 let f:=anyF c r.2.1 (numV c r.2.2 [1,2]).toNat (r.2.2 + 1)
 let g:=if pickV c f.2 12 = 0 then ((someF c (f.2 + 1)).2.1,(someF c (f.2 + 1)).2.2) else (f.1,f.2 + 1)
 ((stkBent c r.1 g.2).1,g.1)
theorem drawTell_b {c:List Int} (hb:OkB c):∃ d:Nat,numV c (stkSome c 0).2.2 [1,2] = d ∧ 1 ≤ d ∧ d ≤ 2:=by
 have h:=stkSome_b hb (p:=0) (by omega)
 have hm:=numV_mem hb (p:=(stkSome c 0).2.2) (l:=[1,2]) (by omega) (by simp)
 simp only [List.mem_cons,List.not_mem_nil,or_false] at hm
 exact ⟨(numV c (stkSome c 0).2.2 [1,2]).toNat,by omega,by omega,by omega⟩
theorem drawTell_flat {c:List Int} (hb:OkB c):(drawTell c).1.levels.flatten.length ≤ 8000000:=by
 have h:=stkSome_b hb (p:=0) (by omega)
 simp only [drawTell]
 exact stkBent_flat (by omega)
end Go.Mod
