/-
  How much an argument holds: the walks. A step towards the exact laws.
-/
import Derived.Test.YtgeogofjlhjcmaaGreatKRF
import Derived.Test.YtgeogofjlhjcmaaGreatKRE
set_option linter.unusedVariables false
set_option linter.unusedSimpArgs false
namespace Go.Proofs.YtgeogofjlhjcmaaGreat
open Go.Eng Go.Mod
open Int renaming reduceEq → Z1,reduceLT → Z2,reduceLE → Z3,reduceToNat → Z4
set_option maxRecDepth 100000
def szGo {α:Type} (f:α → Int → Int):List α → Int → Int
 | [],l=>l
 | x :: xs,l=>if f x l < 0 then -1 else szGo f xs (f x l)
def szS {α:Type} (f:α → Int → Int) (xs:List α) (l:Int):Int:=if l - xs.length < 0 then -1 else szGo f xs (l - xs.length)
def chn (fs:List (Int → Int)) (l:Int):Int:=szGo (fun f l=>f l) fs l
def szN (n:Nat) (l:Int):Int:=l - n
def szI (ns:List Int) (l:Int):Int:=if l - ns.length < 0 then -1 else l - ns.length
def Shr {α:Type} (f:α → Int → Int) (x:α):Prop:=∀ l,0 ≤ l → -1 ≤ f x l ∧ f x l ≤ l
def Shl (f:Int → Int):Prop:=∀ l,0 ≤ l → f l ≤ l
theorem szGo_shr {α:Type} {f:α → Int → Int}:∀ {xs:List α},(∀ x ∈ xs,∀ l,0 ≤ l → f x l ≤ l) → ∀ l,0 ≤ l → -1 ≤ szGo f xs l ∧ szGo f xs l ≤ l
 | [],_,l,h=>by simp only [szGo]; omega
 | x :: xs,hx,l,h=>by
   simp only [szGo]
   have h1:=hx x (by simp) l h
   split
   ·omega
   ·have:=szGo_shr (xs:=xs) (fun y hy=>hx y (by simp [hy])) (f x l) (by omega)
    omega
theorem szS_shr {α:Type} {f:α → Int → Int} {xs:List α} (hx:∀ x ∈ xs,Shr f x) (l:Int) (h:0 ≤ l):-1 ≤ szS f xs l ∧ szS f xs l ≤ l:=by
 unfold szS
 split
 ·omega
 ·have:=szGo_shr (f:=f) (xs:=xs) (fun x hm l h=>(hx x hm l h).2) (l - xs.length) (by omega)
  omega
theorem szI_shr (ns:List Int):Shr szI ns:=by
 intro l h
 unfold szI
 split <;> omega
theorem chn_shr {fs:List (Int → Int)} (h:∀ f ∈ fs,Shl f) (l:Int) (h0:0 ≤ l):-1 ≤ chn fs l ∧ chn fs l ≤ l:=szGo_shr (α:=Int → Int) (f:=fun f l=>f l) h l h0
theorem Shr.shl {α:Type} {f:α → Int → Int} {x:α} (h:Shr f x):Shl (f x):=fun l hl=>(h l hl).2
theorem szGo_drop {α:Type} {f:α → Int → Int} {xs:List α} {i:Nat} (h:i < xs.length) (l:Int):szGo f (xs.drop i) l = if f xs[i] l < 0 then -1 else szGo f (xs.drop (i + 1)) (f xs[i] l):=by
 rw [List.drop_eq_getElem_cons h]
 rfl
theorem c_laws_szIntS (ns:List Int) (l:Int) (h0:0 ≤ l) (hl1:l ≤ 1048576):C E.P 90 [lv (rowsI ns),iv l] [] (Eq2 (iv (szI ns l)) []):=by
 have hLB:=LB_eq
 refine C_goS (nt:=12) (rs:=[.tmp 4]) hm Tryz.func90 rfl rfl rfl rfl rfl (fun hl he=>?_)
 simp -implicitDefEqProofs only [go_sem] at hl ⊢
 repeat (with_reducible apply And.intro; case left=>omega)
 rcases Classical.em (l - ns.length < 0) with h | h
 ·simp -implicitDefEqProofs only [go_sem,h]
  refine fin1' ?_
  simp -implicitDefEqProofs only [go_sem]
  all_goals (simp [szI,h]; done)
 ·simp -implicitDefEqProofs only [go_sem,h]
  refine fin1' ?_
  simp -implicitDefEqProofs only [go_sem]
  all_goals (simp [szI,h]; done)
def szSym (t:Sym) (l:Int):Int:=chn [szN t.name.length,szI t.args] l
def szSig (t:Sig) (l:Int):Int:=chn [szS szSym t.syms] l
mutual
def szTerm:Term → Int → Int
 | .mk n ks,l=>if l - n.length < 0 then -1 else if l - n.length - ks.length < 0 then -1 else szTerms ks (l - n.length - ks.length)
def szTerms:List Term → Int → Int
 | [],l=>l
 | t :: ts,l=>if szTerm t l < 0 then -1 else szTerms ts (szTerm t l)
end
theorem szTerms_eq:∀ (ts:List Term) (l:Int),szTerms ts l = szGo szTerm ts l
 | [],_=>rfl
 | t :: ts,l=>by simp only [szTerms,szGo,szTerms_eq ts]
theorem szTerm_shr:∀ t,Shr szTerm t:=by
 refine Term.ind fun n ks ih l h=>?_
 simp only [szTerm,szTerms_eq]
 split
 ·omega
 ·split
  ·omega
  ·have:=szGo_shr (f:=szTerm) (xs:=ks) (fun x hm l h=>(ih x hm l h).2) (l - n.length - ks.length) (by omega)
   omega
theorem szTerm_chn (t:Term) (l:Int):szTerm t l = chn [szN t.name.length,szS szTerm t.kids] l:=by
 obtain ⟨n,ks⟩:=t
 simp only [szTerm,szTerms_eq,chn,szGo,szN,szS,Term.name,Term.kids]
 rcases Classical.em (l - n.length < 0) with h1 | h1
 ·simp [h1]
 ·rcases Classical.em (l - n.length - ks.length < 0) with h2 | h2
  ·simp [h1,h2]
  ·have hs:=szGo_shr (f:=szTerm) (xs:=ks) (fun x _ l h=>(szTerm_shr x l h).2) (l - n.length - ks.length) (by omega)
   rcases Classical.em (szGo szTerm ks (l - n.length - ks.length) < 0) with h3 | h3
   ·have:szGo szTerm ks (l - n.length - ks.length) = -1:=by omega
    simp [h1,h2,this]
   ·simp [h1,h2,h3]
theorem c_laws_szTermS (ts:List Term) (l:Int) (h0:0 ≤ l) (hl1:l ≤ 1048576) (sh:∀ t ∈ ts,Shr szTerm t) (c_laws_szTerm:∀ t ∈ ts,∀ l,0 ≤ l → l ≤ 1048576 → C E.P 122 [av (cT t),iv l] [] (Eq2 (iv (szTerm t l)) [])) :
 C E.P 123 [lv (rowsT ts),iv l] [] (Eq2 (iv (szS szTerm ts l)) []):=by
 have hLB:=LB_eq
 refine C_goS (nt:=27) (rs:=[.tmp 4]) hm Tryz.func123 rfl rfl rfl rfl rfl (fun hl he=>?_)
 simp -implicitDefEqProofs only [go_sem] at hl ⊢
 repeat (with_reducible apply And.intro; case left=>omega)
 rcases Classical.em (l - ts.length < 0) with h | h
 ·simp -implicitDefEqProofs only [go_sem,h]
  refine fin1' ?_
  simp -implicitDefEqProofs only [go_sem]
  all_goals (simp [szS,h]; done)
 ·simp -implicitDefEqProofs only [go_sem,h]
  refine loop_go2 hm (fun (i:Nat) (r:Int)=> i ≤ ts.length ∧ 0 ≤ r ∧ r ≤ 1048576 ∧ szS szTerm ts l = szGo szTerm (ts.drop i) r) (fun (i:Nat) (r:Int)=> ⟨mkS 27 .any [(0,lv (rowsT ts)),(1,iv r),(5,iv i)],[]⟩) (fun (i:Nat) (r:Int)=> ts.length - i) (0) (l - ts.length) ?_ (weakS [] ?_ ?_ rfl rfl) ?_
  rotate_left
  ·simp -implicitDefEqProofs only [go_sem]
  ·simp -implicitDefEqProofs only [go_sem]
  rotate_left
  ·exact ⟨by omega,by omega,by omega,by simp [szS,h]⟩
  ·rintro i r ⟨hi,hr0,hr1,hr⟩
   rcases Classical.em (i < ts.length) with h1 | h1
   ·have hs:=sh ts[i] (List.getElem_mem h1) r hr0
    have hc:=c_laws_szTerm ts[i] (List.getElem_mem h1) r hr0 hr1
    simp -implicitDefEqProofs only [go_sem,h1]
    refine atCall [] hc ?_ ?_ <;> simp -implicitDefEqProofs only [go_sem]
    rcases Classical.em (szTerm ts[i] r < 0) with h2 | h2
    ·simp -implicitDefEqProofs only [go_sem,h2]
     refine fin1' ?_
     simp -implicitDefEqProofs only [go_sem]
     rw [hr,szGo_drop h1,if_pos h2]
    ·simp -implicitDefEqProofs only [go_sem,h2]
     repeat (with_reducible apply And.intro; case left=>omega)
     refine ⟨i + 1,szTerm ts[i] r,?_,?_,weakS [] ?_ ?_ rfl rfl⟩
     rotate_left
     ·show _ < _
      omega
     ·simp -implicitDefEqProofs only [go_sem]
     ·simp -implicitDefEqProofs only [go_sem]
     exact ⟨by omega,by omega,by omega,by rw [hr,szGo_drop h1,if_neg h2]⟩
   ·have:ts.length ≤ i:=by omega
    simp -implicitDefEqProofs only [go_sem,h1]
    refine fin1' ?_
    simp -implicitDefEqProofs only [go_sem]
    rw [hr,List.drop_of_length_le this]
    rfl
theorem c_laws_szTerm1 (t:Term) (l:Int) (h0:0 ≤ l) (hl1:l ≤ 1048576) (ih:∀ k ∈ t.kids,∀ l,0 ≤ l → l ≤ 1048576 → C E.P 122 [av (cT k),iv l] [] (Eq2 (iv (szTerm k l)) [])):C E.P 122 [av (cT t),iv l] [] (Eq2 (iv (szTerm t l)) []):=by
 have hLB:=LB_eq
 refine C_goS (nt:=19) (rs:=[.tmp 4]) hm Tryz.func122 rfl rfl rfl rfl rfl (fun hl he=>?_)
 simp -implicitDefEqProofs only [go_sem] at hl ⊢
 rw [szTerm_chn]
 repeat (with_reducible apply And.intro; case left=>omega)
 have s0:l - (t.name.length:Int) ≤ l:=by omega
 generalize hr0:l - (t.name.length:Int) = r0 at s0 ⊢
 rcases Classical.em (r0 < 0) with h0 | h0
 ·simp -implicitDefEqProofs only [go_sem,h0]
  refine fin1' ?_
  simp -implicitDefEqProofs only [go_sem]
  simp [chn,szGo,szN,hr0,h0]
 ·simp -implicitDefEqProofs only [go_sem,h0]
  refine atCall [] (c_laws_szTermS t.kids r0 (by omega) (by omega) (fun t _=>szTerm_shr t) ih) ?_ ?_ <;> simp -implicitDefEqProofs only [go_sem]
  have s1:=(Shr.shl (f:=szS szTerm) (x:=t.kids) (szS_shr fun t _=>szTerm_shr t)) r0 (by omega)
  generalize hr1:(szS szTerm t.kids r0) = r1 at s1 ⊢
  rcases Classical.em (r1 < 0) with h1 | h1
  ·simp -implicitDefEqProofs only [go_sem,h1]
   refine fin1' ?_
   simp -implicitDefEqProofs only [go_sem]
   simp [chn,szGo,szN,hr0,h0,hr1,h1]
  ·simp -implicitDefEqProofs only [go_sem,h1]
   refine fin1' ?_
   simp -implicitDefEqProofs only [go_sem]
   simp [chn,szGo,szN,hr0,h0,hr1,h1]
theorem c_laws_szTerm:∀ (t:Term) (l:Int),0 ≤ l → l ≤ 1048576 → C E.P 122 [av (cT t),iv l] [] (Eq2 (iv (szTerm t l)) []):=
 Term.ind fun n ks ih l h0 h1=>c_laws_szTerm1 (.mk n ks) l h0 h1 ih
def szAtom (t:Atom) (l:Int):Int:=chn [szTerm t.A,szTerm t.B,szS szTerm t.nums,szI t.times] l
theorem szAtom_chn (t:Atom) (l:Int):szAtom t l = chn [szTerm t.A,szTerm t.B,szS szTerm t.nums,szI t.times] l:=rfl
theorem szAtom_shr (t:Atom):Shr szAtom t:=chn_shr (by
 intro f hf
 simp only [List.mem_cons,List.not_mem_nil,or_false] at hf
 rcases hf with rfl | rfl | rfl | rfl
 ·exact (szTerm_shr t.A).shl
 ·exact (szTerm_shr t.B).shl
 ·exact Shr.shl (f:=szS szTerm) (x:=t.nums) (szS_shr fun t _=>szTerm_shr t)
 ·exact (szI_shr t.times).shl)
theorem c_laws_szAtom (t:Atom) (l:Int) (h0:0 ≤ l) (hl1:l ≤ 1048576):C E.P 84 [av (cAtom t),iv l] [] (Eq2 (iv (szAtom t l)) []):=by
 have hLB:=LB_eq
 refine C_goS (nt:=30) (rs:=[.tmp 4]) hm Tryz.func84 rfl rfl rfl rfl rfl (fun hl he=>?_)
 simp -implicitDefEqProofs only [go_sem] at hl ⊢
 rw [szAtom_chn]
 refine atCall [] (c_laws_szTerm t.A l (by omega) (by omega)) ?_ ?_ <;> simp -implicitDefEqProofs only [go_sem]
 have s0:=((szTerm_shr t.A).shl) l (by omega)
 generalize hr0:(szTerm t.A l) = r0 at s0 ⊢
 rcases Classical.em (r0 < 0) with h0 | h0
 ·simp -implicitDefEqProofs only [go_sem,h0]
  refine fin1' ?_
  simp -implicitDefEqProofs only [go_sem]
  simp [chn,szGo,hr0,h0]
 ·simp -implicitDefEqProofs only [go_sem,h0]
  refine atCall [] (c_laws_szTerm t.B r0 (by omega) (by omega)) ?_ ?_ <;> simp -implicitDefEqProofs only [go_sem]
  have s1:=((szTerm_shr t.B).shl) r0 (by omega)
  generalize hr1:(szTerm t.B r0) = r1 at s1 ⊢
  rcases Classical.em (r1 < 0) with h1 | h1
  ·simp -implicitDefEqProofs only [go_sem,h1]
   refine fin1' ?_
   simp -implicitDefEqProofs only [go_sem]
   simp [chn,szGo,hr0,h0,hr1,h1]
  ·simp -implicitDefEqProofs only [go_sem,h1]
   refine atCall [] (c_laws_szTermS t.nums r1 (by omega) (by omega) (fun t _=>szTerm_shr t) (fun t _ l h0 h1=>c_laws_szTerm t l h0 h1)) ?_ ?_ <;> simp -implicitDefEqProofs only [go_sem]
   have s2:=(Shr.shl (f:=szS szTerm) (x:=t.nums) (szS_shr fun t _=>szTerm_shr t)) r1 (by omega)
   generalize hr2:(szS szTerm t.nums r1) = r2 at s2 ⊢
   rcases Classical.em (r2 < 0) with h2 | h2
   ·simp -implicitDefEqProofs only [go_sem,h2]
    refine fin1' ?_
    simp -implicitDefEqProofs only [go_sem]
    simp [chn,szGo,hr0,h0,hr1,h1,hr2,h2]
   ·simp -implicitDefEqProofs only [go_sem,h2]
    refine atCall [] (c_laws_szIntS t.times r2 (by omega) (by omega)) ?_ ?_ <;> simp -implicitDefEqProofs only [go_sem]
    have s3:=((szI_shr t.times).shl) r2 (by omega)
    generalize hr3:(szI t.times r2) = r3 at s3 ⊢
    rcases Classical.em (r3 < 0) with h3 | h3
    ·simp -implicitDefEqProofs only [go_sem,h3]
     refine fin1' ?_
     simp -implicitDefEqProofs only [go_sem]
     simp [chn,szGo,hr0,h0,hr1,h1,hr2,h2,hr3,h3]
    ·simp -implicitDefEqProofs only [go_sem,h3]
     refine fin1' ?_
     simp -implicitDefEqProofs only [go_sem]
     simp [chn,szGo,hr0,h0,hr1,h1,hr2,h2,hr3,h3]
def szLit (t:LitD) (l:Int):Int:=chn [szAtom t.atom] l
theorem szLit_chn (t:LitD) (l:Int):szLit t l = chn [szAtom t.atom] l:=rfl
theorem szLit_shr (t:LitD):Shr szLit t:=chn_shr (by
 intro f hf
 simp only [List.mem_cons,List.not_mem_nil,or_false] at hf
 rcases hf with rfl
 ·exact (szAtom_shr t.atom).shl)
theorem c_laws_szLit (t:LitD) (l:Int) (h0:0 ≤ l) (hl1:l ≤ 1048576):C E.P 46 [av (cLit t),iv l] [] (Eq2 (iv (szLit t l)) []):=by
 have hLB:=LB_eq
 refine C_goS (nt:=12) (rs:=[.tmp 4]) hm Tryz.func46 rfl rfl rfl rfl rfl (fun hl he=>?_)
 simp -implicitDefEqProofs only [go_sem] at hl ⊢
 rw [szLit_chn]
 refine atCall [] (c_laws_szAtom t.atom l (by omega) (by omega)) ?_ ?_ <;> simp -implicitDefEqProofs only [go_sem]
 have s0:=((szAtom_shr t.atom).shl) l (by omega)
 generalize hr0:(szAtom t.atom l) = r0 at s0 ⊢
 rcases Classical.em (r0 < 0) with h0 | h0
 ·simp -implicitDefEqProofs only [go_sem,h0]
  refine fin1' ?_
  simp -implicitDefEqProofs only [go_sem]
  simp [chn,szGo,hr0,h0]
 ·simp -implicitDefEqProofs only [go_sem,h0]
  refine fin1' ?_
  simp -implicitDefEqProofs only [go_sem]
  simp [chn,szGo,hr0,h0]
mutual
def szWhy:Why → Int → Int
 | .mk _ _ t ks,l=>if szTerm t l < 0 then -1 else if szTerm t l - ks.length < 0 then -1 else szWhys ks (szTerm t l - ks.length)
def szWhys:List Why → Int → Int
 | [],l=>l
 | t :: ts,l=>if szWhy t l < 0 then -1 else szWhys ts (szWhy t l)
end
theorem szWhys_eq:∀ (ts:List Why) (l:Int),szWhys ts l = szGo szWhy ts l
 | [],_=>rfl
 | t :: ts,l=>by simp only [szWhys,szGo,szWhys_eq ts]
theorem szWhy_shr:∀ t,Shr szWhy t:=by
 refine Why.ind fun r n t ks ih l h=>?_
 simp only [szWhy,szWhys_eq]
 have ht:=szTerm_shr t l h
 split
 ·omega
 ·split
  ·omega
  ·have:=szGo_shr (f:=szWhy) (xs:=ks) (fun x hm l h=>(ih x hm l h).2) (szTerm t l - ks.length) (by omega)
   omega
theorem szWhy_chn (t:Why) (l:Int):szWhy t l = chn [szTerm t.t,szS szWhy t.kids] l:=by
 obtain ⟨r,n,t,ks⟩:=t
 simp only [szWhy,szWhys_eq,chn,szGo,szS,Why.t,Why.kids]
 rcases Classical.em (szTerm t l < 0) with h1 | h1
 ·simp [h1]
 ·rcases Classical.em (szTerm t l - ks.length < 0) with h2 | h2
  ·simp [h1,h2]
  ·have hs:=szGo_shr (f:=szWhy) (xs:=ks) (fun x _ l h=>(szWhy_shr x l h).2) (szTerm t l - ks.length) (by omega)
   rcases Classical.em (szGo szWhy ks (szTerm t l - ks.length) < 0) with h3 | h3
   ·have:szGo szWhy ks (szTerm t l - ks.length) = -1:=by omega
    simp [h1,h2,this]
   ·simp [h1,h2,h3]
theorem c_laws_szWhyS (ts:List Why) (l:Int) (h0:0 ≤ l) (hl1:l ≤ 1048576) (sh:∀ t ∈ ts,Shr szWhy t) (c_laws_szWhy:∀ t ∈ ts,∀ l,0 ≤ l → l ≤ 1048576 → C E.P 154 [av (cWhy t),iv l] [] (Eq2 (iv (szWhy t l)) [])) :
 C E.P 191 [lv (rowsWhy ts),iv l] [] (Eq2 (iv (szS szWhy ts l)) []):=by
 have hLB:=LB_eq
 refine C_goS (nt:=27) (rs:=[.tmp 4]) hm Tryz.func191 rfl rfl rfl rfl rfl (fun hl he=>?_)
 simp -implicitDefEqProofs only [go_sem] at hl ⊢
 repeat (with_reducible apply And.intro; case left=>omega)
 rcases Classical.em (l - ts.length < 0) with h | h
 ·simp -implicitDefEqProofs only [go_sem,h]
  refine fin1' ?_
  simp -implicitDefEqProofs only [go_sem]
  all_goals (simp [szS,h]; done)
 ·simp -implicitDefEqProofs only [go_sem,h]
  refine loop_go2 hm (fun (i:Nat) (r:Int)=> i ≤ ts.length ∧ 0 ≤ r ∧ r ≤ 1048576 ∧ szS szWhy ts l = szGo szWhy (ts.drop i) r) (fun (i:Nat) (r:Int)=> ⟨mkS 27 .any [(0,lv (rowsWhy ts)),(1,iv r),(5,iv i)],[]⟩) (fun (i:Nat) (r:Int)=> ts.length - i) (0) (l - ts.length) ?_ (weakS [] ?_ ?_ rfl rfl) ?_
  rotate_left
  ·simp -implicitDefEqProofs only [go_sem]
  ·simp -implicitDefEqProofs only [go_sem]
  rotate_left
  ·exact ⟨by omega,by omega,by omega,by simp [szS,h]⟩
  ·rintro i r ⟨hi,hr0,hr1,hr⟩
   rcases Classical.em (i < ts.length) with h1 | h1
   ·have hs:=sh ts[i] (List.getElem_mem h1) r hr0
    have hc:=c_laws_szWhy ts[i] (List.getElem_mem h1) r hr0 hr1
    simp -implicitDefEqProofs only [go_sem,h1]
    refine atCall [] hc ?_ ?_ <;> simp -implicitDefEqProofs only [go_sem]
    rcases Classical.em (szWhy ts[i] r < 0) with h2 | h2
    ·simp -implicitDefEqProofs only [go_sem,h2]
     refine fin1' ?_
     simp -implicitDefEqProofs only [go_sem]
     rw [hr,szGo_drop h1,if_pos h2]
    ·simp -implicitDefEqProofs only [go_sem,h2]
     repeat (with_reducible apply And.intro; case left=>omega)
     refine ⟨i + 1,szWhy ts[i] r,?_,?_,weakS [] ?_ ?_ rfl rfl⟩
     rotate_left
     ·show _ < _
      omega
     ·simp -implicitDefEqProofs only [go_sem]
     ·simp -implicitDefEqProofs only [go_sem]
     exact ⟨by omega,by omega,by omega,by rw [hr,szGo_drop h1,if_neg h2]⟩
   ·have:ts.length ≤ i:=by omega
    simp -implicitDefEqProofs only [go_sem,h1]
    refine fin1' ?_
    simp -implicitDefEqProofs only [go_sem]
    rw [hr,List.drop_of_length_le this]
    rfl
theorem c_laws_szWhy1 (t:Why) (l:Int) (h0:0 ≤ l) (hl1:l ≤ 1048576) (ih:∀ k ∈ t.kids,∀ l,0 ≤ l → l ≤ 1048576 → C E.P 154 [av (cWhy k),iv l] [] (Eq2 (iv (szWhy k l)) [])):C E.P 154 [av (cWhy t),iv l] [] (Eq2 (iv (szWhy t l)) []):=by
 have hLB:=LB_eq
 refine C_goS (nt:=18) (rs:=[.tmp 4]) hm Tryz.func154 rfl rfl rfl rfl rfl (fun hl he=>?_)
 simp -implicitDefEqProofs only [go_sem] at hl ⊢
 rw [szWhy_chn]
 refine atCall [] (c_laws_szTerm t.t l (by omega) (by omega)) ?_ ?_ <;> simp -implicitDefEqProofs only [go_sem]
 have s0:=((szTerm_shr t.t).shl) l (by omega)
 generalize hr0:(szTerm t.t l) = r0 at s0 ⊢
 rcases Classical.em (r0 < 0) with h0 | h0
 ·simp -implicitDefEqProofs only [go_sem,h0]
  refine fin1' ?_
  simp -implicitDefEqProofs only [go_sem]
  simp [chn,szGo,hr0,h0]
 ·simp -implicitDefEqProofs only [go_sem,h0]
  refine atCall [] (c_laws_szWhyS t.kids r0 (by omega) (by omega) (fun t _=>szWhy_shr t) ih) ?_ ?_ <;> simp -implicitDefEqProofs only [go_sem]
  have s1:=(Shr.shl (f:=szS szWhy) (x:=t.kids) (szS_shr fun t _=>szWhy_shr t)) r0 (by omega)
  generalize hr1:(szS szWhy t.kids r0) = r1 at s1 ⊢
  rcases Classical.em (r1 < 0) with h1 | h1
  ·simp -implicitDefEqProofs only [go_sem,h1]
   refine fin1' ?_
   simp -implicitDefEqProofs only [go_sem]
   simp [chn,szGo,hr0,h0,hr1,h1]
  ·simp -implicitDefEqProofs only [go_sem,h1]
   refine fin1' ?_
   simp -implicitDefEqProofs only [go_sem]
   simp [chn,szGo,hr0,h0,hr1,h1]
theorem c_laws_szWhy:∀ (t:Why) (l:Int),0 ≤ l → l ≤ 1048576 → C E.P 154 [av (cWhy t),iv l] [] (Eq2 (iv (szWhy t l)) []):=
 Why.ind fun r n t ks ih l h0 h1=>c_laws_szWhy1 (.mk r n t ks) l h0 h1 ih
theorem chn_snoc (g:Int → Int) (fs:List (Int → Int)):∀ l,chn (fs ++ [g]) l = if chn fs l < 0 ∧ fs ≠ [] then -1 else if g (chn fs l) < 0 then -1 else g (chn fs l):=by
 induction fs with
 | nil=>intro l; simp [chn,szGo]; rfl
 | cons f fs ih=>
   intro l
   simp only [chn,List.cons_append,szGo] at ih ⊢
   rcases Classical.em (f l < 0) with h1 | h1
   ·simp [h1]
   ·rw [if_neg h1,if_neg h1,ih]
    cases fs with
    | nil=>simp [szGo,h1]; rfl
    | cons _ _=>simp; rfl
mutual
def szCase:Case → Int → Int
 | .mk _ _ w ts a b ks,l=>if chn [szWhy w,szI ts,szTerm a,szTerm b] l < 0 then -1 else if chn [szWhy w,szI ts,szTerm a,szTerm b] l - ks.length < 0 then -1 else szCases ks (chn [szWhy w,szI ts,szTerm a,szTerm b] l - ks.length)
def szCases:List Case → Int → Int
 | [],l=>l
 | t :: ts,l=>if szCase t l < 0 then -1 else szCases ts (szCase t l)
end
theorem szCases_eq:∀ (ts:List Case) (l:Int),szCases ts l = szGo szCase ts l
 | [],_=>rfl
 | t :: ts,l=>by simp only [szCases,szGo,szCases_eq ts]
theorem szCase_pre (w:Why) (ts:List Int) (a b:Term) (l:Int) (h:0 ≤ l):-1 ≤ chn [szWhy w,szI ts,szTerm a,szTerm b] l ∧ chn [szWhy w,szI ts,szTerm a,szTerm b] l ≤ l:=by
 refine chn_shr ?_ l h
 intro f hf
 simp only [List.mem_cons,List.not_mem_nil,or_false] at hf
 rcases hf with rfl | rfl | rfl | rfl
 ·exact (szWhy_shr w).shl
 ·exact (szI_shr ts).shl
 ·exact (szTerm_shr a).shl
 ·exact (szTerm_shr b).shl
theorem szCase_shr:∀ t,Shr szCase t:=by
 refine Case.ind fun k n w ts a b ks ih l h=>?_
 simp only [szCase,szCases_eq]
 have ht:=szCase_pre w ts a b l h
 split
 ·omega
 ·split
  ·omega
  ·have:=szGo_shr (f:=szCase) (xs:=ks) (fun x hm l h=>(ih x hm l h).2) (chn [szWhy w,szI ts,szTerm a,szTerm b] l - ks.length) (by omega)
   omega
theorem szCase_chn (t:Case) (l:Int):szCase t l = chn [szWhy t.why,szI t.times,szTerm t.A,szTerm t.B,szS szCase t.kids] l:=by
 obtain ⟨k,n,w,ts,a,b,ks⟩:=t
 have e:=chn_snoc (szS szCase ks) [szWhy w,szI ts,szTerm a,szTerm b] l
 simp only [List.cons_append,List.nil_append] at e
 show szCase (.mk k n w ts a b ks) l = chn [szWhy w,szI ts,szTerm a,szTerm b,szS szCase ks] l
 rw [e]
 simp only [szCase,szCases_eq,szS]
 generalize chn [szWhy w,szI ts,szTerm a,szTerm b] l = r
 rcases Classical.em (r < 0) with h1 | h1
 ·simp [h1]
 ·rcases Classical.em (r - ks.length < 0) with h2 | h2
  ·simp [h1,h2]
  ·have hs:=szGo_shr (f:=szCase) (xs:=ks) (fun x _ l h=>(szCase_shr x l h).2) (r - ks.length) (by omega)
   rcases Classical.em (szGo szCase ks (r - ks.length) < 0) with h3 | h3
   ·have:szGo szCase ks (r - ks.length) = -1:=by omega
    simp [h1,h2,this]
   ·simp [h1,h2,h3]
theorem c_laws_szCaseS (ts:List Case) (l:Int) (h0:0 ≤ l) (hl1:l ≤ 1048576) (sh:∀ t ∈ ts,Shr szCase t) (c_laws_szCase:∀ t ∈ ts,∀ l,0 ≤ l → l ≤ 1048576 → C E.P 130 [av (cCase t),iv l] [] (Eq2 (iv (szCase t l)) [])) :
 C E.P 155 [lv (rowsCase ts),iv l] [] (Eq2 (iv (szS szCase ts l)) []):=by
 have hLB:=LB_eq
 refine C_goS (nt:=27) (rs:=[.tmp 4]) hm Tryz.func155 rfl rfl rfl rfl rfl (fun hl he=>?_)
 simp -implicitDefEqProofs only [go_sem] at hl ⊢
 repeat (with_reducible apply And.intro; case left=>omega)
 rcases Classical.em (l - ts.length < 0) with h | h
 ·simp -implicitDefEqProofs only [go_sem,h]
  refine fin1' ?_
  simp -implicitDefEqProofs only [go_sem]
  all_goals (simp [szS,h]; done)
 ·simp -implicitDefEqProofs only [go_sem,h]
  refine loop_go2 hm (fun (i:Nat) (r:Int)=> i ≤ ts.length ∧ 0 ≤ r ∧ r ≤ 1048576 ∧ szS szCase ts l = szGo szCase (ts.drop i) r) (fun (i:Nat) (r:Int)=> ⟨mkS 27 .any [(0,lv (rowsCase ts)),(1,iv r),(5,iv i)],[]⟩) (fun (i:Nat) (r:Int)=> ts.length - i) (0) (l - ts.length) ?_ (weakS [] ?_ ?_ rfl rfl) ?_
  rotate_left
  ·simp -implicitDefEqProofs only [go_sem]
  ·simp -implicitDefEqProofs only [go_sem]
  rotate_left
  ·exact ⟨by omega,by omega,by omega,by simp [szS,h]⟩
  ·rintro i r ⟨hi,hr0,hr1,hr⟩
   rcases Classical.em (i < ts.length) with h1 | h1
   ·have hs:=sh ts[i] (List.getElem_mem h1) r hr0
    have hc:=c_laws_szCase ts[i] (List.getElem_mem h1) r hr0 hr1
    simp -implicitDefEqProofs only [go_sem,h1]
    refine atCall [] hc ?_ ?_ <;> simp -implicitDefEqProofs only [go_sem]
    rcases Classical.em (szCase ts[i] r < 0) with h2 | h2
    ·simp -implicitDefEqProofs only [go_sem,h2]
     refine fin1' ?_
     simp -implicitDefEqProofs only [go_sem]
     rw [hr,szGo_drop h1,if_pos h2]
    ·simp -implicitDefEqProofs only [go_sem,h2]
     repeat (with_reducible apply And.intro; case left=>omega)
     refine ⟨i + 1,szCase ts[i] r,?_,?_,weakS [] ?_ ?_ rfl rfl⟩
     rotate_left
     ·show _ < _
      omega
     ·simp -implicitDefEqProofs only [go_sem]
     ·simp -implicitDefEqProofs only [go_sem]
     exact ⟨by omega,by omega,by omega,by rw [hr,szGo_drop h1,if_neg h2]⟩
   ·have:ts.length ≤ i:=by omega
    simp -implicitDefEqProofs only [go_sem,h1]
    refine fin1' ?_
    simp -implicitDefEqProofs only [go_sem]
    rw [hr,List.drop_of_length_le this]
    rfl
theorem c_laws_szCase1 (t:Case) (l:Int) (h0:0 ≤ l) (hl1:l ≤ 1048576) (ih:∀ k ∈ t.kids,∀ l,0 ≤ l → l ≤ 1048576 → C E.P 130 [av (cCase k),iv l] [] (Eq2 (iv (szCase k l)) [])):C E.P 130 [av (cCase t),iv l] [] (Eq2 (iv (szCase t l)) []):=by
 have hLB:=LB_eq
 refine C_goS (nt:=36) (rs:=[.tmp 4]) hm Tryz.func130 rfl rfl rfl rfl rfl (fun hl he=>?_)
 simp -implicitDefEqProofs only [go_sem] at hl ⊢
 rw [szCase_chn]
 refine atCall [] (c_laws_szWhy t.why l (by omega) (by omega)) ?_ ?_ <;> simp -implicitDefEqProofs only [go_sem]
 have s0:=((szWhy_shr t.why).shl) l (by omega)
 generalize hr0:(szWhy t.why l) = r0 at s0 ⊢
 rcases Classical.em (r0 < 0) with h0 | h0
 ·simp -implicitDefEqProofs only [go_sem,h0]
  refine fin1' ?_
  simp -implicitDefEqProofs only [go_sem]
  simp [chn,szGo,hr0,h0]
 ·simp -implicitDefEqProofs only [go_sem,h0]
  refine atCall [] (c_laws_szIntS t.times r0 (by omega) (by omega)) ?_ ?_ <;> simp -implicitDefEqProofs only [go_sem]
  have s1:=((szI_shr t.times).shl) r0 (by omega)
  generalize hr1:(szI t.times r0) = r1 at s1 ⊢
  rcases Classical.em (r1 < 0) with h1 | h1
  ·simp -implicitDefEqProofs only [go_sem,h1]
   refine fin1' ?_
   simp -implicitDefEqProofs only [go_sem]
   simp [chn,szGo,hr0,h0,hr1,h1]
  ·simp -implicitDefEqProofs only [go_sem,h1]
   refine atCall [] (c_laws_szTerm t.A r1 (by omega) (by omega)) ?_ ?_ <;> simp -implicitDefEqProofs only [go_sem]
   have s2:=((szTerm_shr t.A).shl) r1 (by omega)
   generalize hr2:(szTerm t.A r1) = r2 at s2 ⊢
   rcases Classical.em (r2 < 0) with h2 | h2
   ·simp -implicitDefEqProofs only [go_sem,h2]
    refine fin1' ?_
    simp -implicitDefEqProofs only [go_sem]
    simp [chn,szGo,hr0,h0,hr1,h1,hr2,h2]
   ·simp -implicitDefEqProofs only [go_sem,h2]
    refine atCall [] (c_laws_szTerm t.B r2 (by omega) (by omega)) ?_ ?_ <;> simp -implicitDefEqProofs only [go_sem]
    have s3:=((szTerm_shr t.B).shl) r2 (by omega)
    generalize hr3:(szTerm t.B r2) = r3 at s3 ⊢
    rcases Classical.em (r3 < 0) with h3 | h3
    ·simp -implicitDefEqProofs only [go_sem,h3]
     refine fin1' ?_
     simp -implicitDefEqProofs only [go_sem]
     simp [chn,szGo,hr0,h0,hr1,h1,hr2,h2,hr3,h3]
    ·simp -implicitDefEqProofs only [go_sem,h3]
     refine atCall [] (c_laws_szCaseS t.kids r3 (by omega) (by omega) (fun t _=>szCase_shr t) ih) ?_ ?_ <;> simp -implicitDefEqProofs only [go_sem]
     have s4:=(Shr.shl (f:=szS szCase) (x:=t.kids) (szS_shr fun t _=>szCase_shr t)) r3 (by omega)
     generalize hr4:(szS szCase t.kids r3) = r4 at s4 ⊢
     rcases Classical.em (r4 < 0) with h4 | h4
     ·simp -implicitDefEqProofs only [go_sem,h4]
      refine fin1' ?_
      simp -implicitDefEqProofs only [go_sem]
      simp [chn,szGo,hr0,h0,hr1,h1,hr2,h2,hr3,h3,hr4,h4]
     ·simp -implicitDefEqProofs only [go_sem,h4]
      refine fin1' ?_
      simp -implicitDefEqProofs only [go_sem]
      simp [chn,szGo,hr0,h0,hr1,h1,hr2,h2,hr3,h3,hr4,h4]
theorem c_laws_szCase:∀ (t:Case) (l:Int),0 ≤ l → l ≤ 1048576 → C E.P 130 [av (cCase t),iv l] [] (Eq2 (iv (szCase t l)) []):=
 Case.ind fun k n w ts a b ks ih l h0 h1=>c_laws_szCase1 (.mk k n w ts a b ks) l h0 h1 ih
end Go.Proofs.YtgeogofjlhjcmaaGreat
