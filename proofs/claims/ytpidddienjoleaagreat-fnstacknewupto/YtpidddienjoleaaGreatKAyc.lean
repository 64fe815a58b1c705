/-
  The reference: the walks of what is drawn: forms, one in sixteen bent; lists of forms; what is so. A step towards the laws.
-/
import Derived.Test.YtpidddienjoleaaGreatKAya
import Derived.Test.YtpidddienjoleaaGreatKAEb
import Derived.Test.YtpidddienjoleaaGreatKADa
import Derived.Test.YtpidddienjoleaaGreatKAI
import Derived.Test.YtpidddienjoleaaGreatKAE
import Derived.Test.YtpidddienjoleaaGreatKAL
import Derived.Test.YtpidddienjoleaaGreatKAD
import Derived.Test.YtpidddienjoleaaGreatKAyb
set_option linter.unusedVariables false
set_option linter.unusedSimpArgs false
namespace Go.Proofs.YtpidddienjoleaaGreat
open Go.Eng Go.Mod
open Int renaming reduceEq → Z1,reduceLT → Z2,reduceLE → Z3,reduceToNat → Z4
set_option maxRecDepth 100000
set_option maxHeartbeats 400000
def SigSmall (s:Sig):Prop:=s.syms.length ≤ 100 ∧ ∀ x ∈ s.syms,x.args.length ≤ 1000
theorem fair_small {s:Sig} (h:SigFair s):SigSmall s:=⟨by have:=h.1; omega,fun x hx=>by have:=(h.2 x hx).1; omega⟩
theorem fillS_args (b:List Int):∀ (n:Nat) (l:List Sym) (p:Int),(∀ x ∈ l,x.args.length ≤ 1000) → ∀ x ∈ (fillS b n l p).1,x.args.length ≤ 1000
 | 0,_,_,h=>h
 | n + 1,l,p,h=>fillS_args b n _ _ fun x hx=>by
   rcases List.mem_append.1 hx with hx | hx
   ·exact h x hx
   ·rw [List.mem_singleton.1 hx]; simp
theorem bentS_small {b:List Int} {s:Sig} (h:SigFair s) (p:Int):SigSmall (bentS b s p).1:=by
 have h0:=fair_small h
 obtain ⟨h1,h2⟩:=h
 have hx:∀ k,(s.syms.getD k ⟨[],[],0⟩).args.length ≤ 2:=by
  intro k
  rw [List.getD_eq_getElem?_getD]
  cases hk:s.syms[k]? with
  | none=>simp
  | some x=>exact (h2 x (List.mem_of_getElem? hk)).1
 have hset:∀ (k:Nat) (x:Sym),x.args.length ≤ 1000 → SigSmall ⟨s.syms.set k x⟩:=fun k x hx=>⟨by simp; omega,fun y hy=>by
  rcases List.mem_or_eq_of_mem_set hy with hy | rfl
  ·exact h0.2 y hy
  ·exact hx⟩
 unfold bentS
 simp only
 split
 ·exact h0
 ·split
  ·exact h0
  ·generalize hk:(pickV b (p + 1) s.syms.length).toNat = k
   have hxk:=hx k
   split
   ·exact hset _ _ (by simp only; omega)
   ·split
    ·exact hset _ _ (by simp only [List.length_append,List.length_singleton]; omega)
    ·split
     ·exact hset _ _ (by simp only; omega)
     ·split
      ·refine ⟨by simp; omega,fun y hy=>?_⟩
       rcases List.mem_append.1 hy with hy | hy
       ·exact h0.2 y hy
       ·rw [List.mem_singleton.1 hy]; omega
      ·refine ⟨by have:=(fillS_b b (8 - s.syms.length) s.syms (p + 3)).2; simp only; omega,fillS_args b _ _ _ h0.2⟩
end Go.Proofs.YtpidddienjoleaaGreat
