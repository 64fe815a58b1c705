/-
  Stacks as arguments: measured, compared. A step towards the exact laws.
-/
import Derived.Test.YtgeogofjlhjcmaaGreatKRg
import Derived.Test.YtgeogofjlhjcmaaGreatKREa
set_option linter.unusedVariables false
set_option linter.unusedSimpArgs false
namespace Go.Proofs.YtgeogofjlhjcmaaGreat
open Go.Eng Go.Mod
open Int renaming reduceEq → Z1,reduceLT → Z2,reduceLE → Z3,reduceToNat → Z4
set_option maxRecDepth 100000
set_option maxHeartbeats 400000
theorem szFormS_shr (ts:List Mod.Form):Shr (szS szForm) ts:=fun l h=>szS_shr (fun t _=>szForm_shr t) l h
def szStack (t:Stack) (l:Int):Int:=chn [szSig t.sig,szS (szS szForm) t.levels] l
def Use (f:Int → Int) (c:Int):Prop:=∀ l,0 ≤ l → 0 ≤ f l → 7 * f l + c ≤ 7 * l
theorem Use.le {f:Int → Int} {c d:Int} (h:Use f c) (hd:d ≤ c):Use f d:=fun l h0 h1=>by have:=h l h0 h1; omega
theorem use_nil:Use (chn []) 0:=fun l _ _=>by simp [chn,szGo]
theorem use_cons {f:Int → Int} {fs:List (Int → Int)} {c d:Int} (hf:Use f c) (hfs:Use (chn fs) d):Use (chn (f :: fs)) (c + d):=fun l h0 h1=>by
 have e:chn (f :: fs) l = if f l < 0 then -1 else chn fs (f l):=rfl
 rw [e] at h1 ⊢
 rcases Classical.em (f l < 0) with hx | hx
 ·rw [if_pos hx] at h1; omega
 ·rw [if_neg hx] at h1 ⊢
  have k1:=hf l h0 (by omega)
  have k2:=hfs (f l) (by omega) h1
  omega
theorem use_N (n:Nat):Use (szN n) 0:=fun l _ _=>by unfold szN; omega
theorem use_I (ns:List Int):Use (szI ns) ns.length:=fun l _ h1=>by
 unfold szI at h1 ⊢
 split at h1 <;> omega
theorem use_S {α:Type} {f:α → Int → Int} {c:α → Nat}:∀ (xs:List α),(∀ x ∈ xs,Use (f x) ((c x:Int) - 7)) → Use (szS f xs) (ctL c xs):=by
 have key:∀ (xs:List α),(∀ x ∈ xs,Use (f x) ((c x:Int) - 7)) → ∀ (l:Int),0 ≤ l → 0 ≤ szGo f xs l → 7 * szGo f xs l + ctL c xs ≤ 7 * l + 7 * xs.length:=by
  intro xs
  induction xs with
  | nil=>intro _ l _ _; simp [szGo,ctL]
  | cons x xs ih=>
    intro h l h0 h1
    simp only [szGo] at h1 ⊢
    rcases Classical.em (f x l < 0) with hx | hx
    ·rw [if_pos hx] at h1; omega
    ·rw [if_neg hx] at h1 ⊢
     have k1:=ih (fun y hy=>h y (by simp [hy])) (f x l) (by omega) h1
     have k2:=h x (by simp) l h0 (by omega)
     simp only [ctL,List.length_cons]
     omega
 intro xs h l h0 h1
 unfold szS at h1 ⊢
 rcases Classical.em (l - xs.length < 0) with hx | hx
 ·rw [if_pos hx] at h1; omega
 ·rw [if_neg hx] at h1 ⊢
  have:=key xs h (l - xs.length) (by omega) h1
  omega
theorem use_Term:∀ (t:Term),Use (szTerm t) ((ctT t:Int) - 1):=Term.ind fun n ks ih=>by
 have h:=use_cons (use_N n.length) (use_cons (use_S (f:=szTerm) (c:=ctT) ks fun x hx=>(ih x hx).le (by omega)) use_nil)
 intro l h0 h1
 rw [szTerm_chn] at h1 ⊢
 have:=h l h0 h1
 rw [ctT_eq]
 rw [← ctTs_L] at this
 simp only [Term.name,Term.kids] at this ⊢
 omega
theorem use_Terms (ts:List Term):Use (szS szTerm ts) (ctTs ts):=by
 rw [ctTs_L]
 exact use_S ts fun x _=>(use_Term x).le (by omega)
theorem use_Lit (t:LitD):Use (szLit t) ((ctLit t:Int) - 6):=by
 have h:=use_cons (use_cons (use_Term t.atom.A) (use_cons (use_Term t.atom.B) (use_cons (use_Terms t.atom.nums) (use_cons (use_I t.atom.times) use_nil)))) use_nil
 refine Use.le (f:=szLit t) (fun l h0 h1=>h l h0 h1) ?_
 unfold ctLit
 omega
theorem use_Form:∀ (t:Mod.Form),Use (szForm t) ((ctForm t:Int) - 7):=Form.ind fun k x ks ih=>by
 have h:=use_cons (use_Lit x) (use_cons (use_S (f:=szForm) (c:=ctForm) ks ih) use_nil)
 intro l h0 h1
 rw [szForm_chn] at h1 ⊢
 have:=h l h0 h1
 rw [ctForm_eq]
 rw [← ctForms_L] at this
 simp only [Form.lit,Form.kids] at this ⊢
 omega
theorem use_Forms (ts:List Mod.Form):Use (szS szForm ts) (ctForms ts):=by
 rw [ctForms_L]
 exact use_S ts fun x _=>use_Form x
end Go.Proofs.YtgeogofjlhjcmaaGreat
