/-
  Marks found again: the walks. A step towards the exact laws. Stacks that share nothing: the program's walks. A step towards the exact laws.
-/
import Derived.Test.YtgeogofjlhjcmaaGreatKQr
import Derived.Test.YtgeogofjlhjcmaaGreatKQh
import Derived.Test.YtgeogofjlhjcmaaGreatKQEa
import Derived.Test.YtgeogofjlhjcmaaGreatKQDa
set_option linter.unusedVariables false
set_option linter.unusedSimpArgs false
namespace Go.Proofs.YtgeogofjlhjcmaaGreat
open Go.Eng Go.Mod
open Int renaming reduceEq → Z1,reduceLT → Z2,reduceLE → Z3,reduceToNat → Z4
set_option maxRecDepth 100000
set_option maxHeartbeats 400000
theorem c_laws_heldIntS (ts:List Int) (k:Int) (h0:0 ≤ k) (h1:k + ts.length ≤ 4398046511104):C E.P 108 [lv (rowsI (mkL mkI ts k).1),iv k] [] (Eq2 (iv (mkL mkI ts k).2) []):=by
 have hz:=Hd.zero mkI ts k
 obtain ⟨zs,hzs⟩:∃ zs,(mkL mkI ts k).1 = zs:=⟨_,rfl⟩
 rw [hzs] at hz ⊢
 have hLB:=LB_eq
 refine C_goS (nt:=21) (rs:=[.tmp 4]) hm Tryz.func108 rfl rfl rfl rfl rfl (fun hl he=>?_)
 simp -implicitDefEqProofs only [go_sem,Z1,Z2,Z3,Z4] at hl ⊢
 refine loop_go2 hm (fun (i:Nat) (q:Int)=> Hd mkI ts zs k i q) (fun (i:Nat) (q:Int)=> ⟨mkS 21 .any [(0,lv (rowsI zs)),(1,iv q),(5,iv i)],[]⟩) (fun (i:Nat) (q:Int)=> ts.length - i) (0) (k) ?_ (weakS [] ?_ ?_ rfl rfl) ?_
 rotate_left
 ·simp -implicitDefEqProofs only [go_sem,Z1,Z2,Z3,Z4]
 ·simp -implicitDefEqProofs only [go_sem,Z1,Z2,Z3,Z4]
 rotate_left
 ·exact hz
 ·rintro i q hI
  have hl9:=hI.1
  have hct:=hI.ct (c:=fun _=>1) (fun x k=>rfl)
  rw [ctL_one,ctL_one,List.length_drop] at hct
  rcases Classical.em (i < ts.length) with h2 | h2
  ·have h2':i < zs.length:=by omega
   have e1:zs[i] = q:=hI.at h2
   simp -implicitDefEqProofs only [go_sem,Z1,Z2,Z3,Z4,h2',e1]
   repeat (with_reducible apply And.intro; case left=>omega)
   refine ⟨i + 1,q + 1,?_,?_,weakS [] ?_ ?_ rfl rfl⟩
   rotate_left
   ·show _ < _
    omega
   ·simp -implicitDefEqProofs only [go_sem,Z1,Z2,Z3,Z4]
   ·simp -implicitDefEqProofs only [go_sem,Z1,Z2,Z3,Z4]
   exact hI.step h2
  ·have h2':¬ i < zs.length:=by omega
   simp -implicitDefEqProofs only [go_sem,Z1,Z2,Z3,Z4,h2']
   refine fin1' ?_
   simp -implicitDefEqProofs only [go_sem,Z1,Z2,Z3,Z4]
   rw [hI.all (by omega)]
theorem c_laws_heldTermS1 (ts:List Term) (ih:∀ t ∈ ts,∀ (k:Int),0 ≤ k → k + ctTs t.kids ≤ 4398046511104 → C E.P 121 [lv (rowsT (mkTs t.kids k).1),iv k] [] (Eq2 (iv (mkTs t.kids k).2) []))
 (k:Int) (h0:0 ≤ k) (h1:k + ctTs ts ≤ 4398046511104):C E.P 121 [lv (rowsT (mkTs ts k).1),iv k] [] (Eq2 (iv (mkTs ts k).2) []):=by
 have hz:=Hd.zero mkT ts k
 rw [mkTs_L]
 obtain ⟨zs,hzs⟩:∃ zs,(mkL mkT ts k).1 = zs:=⟨_,rfl⟩
 rw [hzs] at hz ⊢
 have hLB:=LB_eq
 refine C_goS (nt:=32) (rs:=[.tmp 4]) hm Tryz.func121 rfl rfl rfl rfl rfl (fun hl he=>?_)
 simp -implicitDefEqProofs only [go_sem,Z1,Z2,Z3,Z4] at hl ⊢
 refine loop_go2 hm (fun (i:Nat) (q:Int)=> Hd mkT ts zs k i q) (fun (i:Nat) (q:Int)=> ⟨mkS 32 .any [(0,lv (rowsT zs)),(1,iv q),(5,iv i)],[]⟩) (fun (i:Nat) (q:Int)=> ts.length - i) (0) (k) ?_ (weakS [] ?_ ?_ rfl rfl) ?_
 rotate_left
 ·simp -implicitDefEqProofs only [go_sem,Z1,Z2,Z3,Z4]
 ·simp -implicitDefEqProofs only [go_sem,Z1,Z2,Z3,Z4]
 rotate_left
 ·exact hz
 ·rintro i q hI
  have hl9:=hI.1
  have hct:=hI.ct (c:=ctT) mkT_ct
  have hdr:=ctL_drop ctT ts i
  rw [← ctTs_L ts] at hct hdr
  rcases Classical.em (i < ts.length) with h2 | h2
  ·have h2':i < zs.length:=by omega
   have hat:=ctL_at ctT ts i h2
   rw [ctT_eq] at hat
   have e0:=hI.at h2
   have hst:=hI.step h2
   rw [mkT_eq] at e0 hst
   have e1:zs[i].name = mkText q:=by rw [e0]; rfl
   have e2:zs[i].kids = (mkTs ts[i].kids (q + 1)).1:=by rw [e0]; rfl
   have hq:=mkTs_ct ts[i].kids (q + 1)
   have hn:¬ (mkTs ts[i].kids (q + 1)).2 < 0:=by omega
   simp -implicitDefEqProofs only [go_sem,Z1,Z2,Z3,Z4,h2',e1,e2]
   refine atCall [] (c_laws_markText q (by omega)) ?_ ?_ <;> simp -implicitDefEqProofs only [go_sem,Z1,Z2,Z3,Z4,e1,e2,h2']
   with_reducible refine ind_andM (by kernel_rfl) ?_
   repeat (with_reducible apply And.intro; case left=>omega)
   refine atCall [] ((ih ts[i] (List.getElem_mem h2) (q + 1) (by omega) (by omega))) ?_ ?_ <;> simp -implicitDefEqProofs only [go_sem,Z1,Z2,Z3,Z4,hn]
   repeat (with_reducible apply And.intro; case left=>omega)
   refine ⟨i + 1,(mkTs ts[i].kids (q + 1)).2,?_,?_,weakS [] ?_ ?_ rfl rfl⟩
   rotate_left
   ·show _ < _
    omega
   ·simp -implicitDefEqProofs only [go_sem,Z1,Z2,Z3,Z4]
   ·simp -implicitDefEqProofs only [go_sem,Z1,Z2,Z3,Z4]
   exact hst
  ·have h2':¬ i < zs.length:=by omega
   simp -implicitDefEqProofs only [go_sem,Z1,Z2,Z3,Z4,h2']
   refine fin1' ?_
   simp -implicitDefEqProofs only [go_sem,Z1,Z2,Z3,Z4]
   rw [hI.all (by omega)]
theorem c_laws_heldTermS0:∀ (t:Term) (k:Int),0 ≤ k → k + ctTs t.kids ≤ 4398046511104 → C E.P 121 [lv (rowsT (mkTs t.kids k).1),iv k] [] (Eq2 (iv (mkTs t.kids k).2) []):=
 Term.ind fun _ ks ih k h0 h1=>c_laws_heldTermS1 ks ih k h0 h1
theorem c_laws_heldTermS (ts:List Term) (k:Int) (h0:0 ≤ k) (h1:k + ctTs ts ≤ 4398046511104):C E.P 121 [lv (rowsT (mkTs ts k).1),iv k] [] (Eq2 (iv (mkTs ts k).2) []):=
 c_laws_heldTermS1 ts (fun t _=>c_laws_heldTermS0 t) k h0 h1
theorem c_laws_heldSymS (ts:List Sym) (k:Int) (h0:0 ≤ k) (h1:k + ctL ctSym ts ≤ 4398046511104):C E.P 82 [lv (rowsSym (mkL mkSym ts k).1),iv k] [] (Eq2 (iv (mkL mkSym ts k).2) []):=by
 have hz:=Hd.zero mkSym ts k
 obtain ⟨zs,hzs⟩:∃ zs,(mkL mkSym ts k).1 = zs:=⟨_,rfl⟩
 rw [hzs] at hz ⊢
 have hLB:=LB_eq
 refine C_goS (nt:=41) (rs:=[.tmp 4]) hm Tryz.func82 rfl rfl rfl rfl rfl (fun hl he=>?_)
 simp -implicitDefEqProofs only [go_sem,Z1,Z2,Z3,Z4] at hl ⊢
 refine loop_go2 hm (fun (i:Nat) (q:Int)=> Hd mkSym ts zs k i q) (fun (i:Nat) (q:Int)=> ⟨mkS 41 .any [(0,lv (rowsSym zs)),(1,iv q),(5,iv i)],[]⟩) (fun (i:Nat) (q:Int)=> ts.length - i) (0) (k) ?_ (weakS [] ?_ ?_ rfl rfl) ?_
 rotate_left
 ·simp -implicitDefEqProofs only [go_sem,Z1,Z2,Z3,Z4]
 ·simp -implicitDefEqProofs only [go_sem,Z1,Z2,Z3,Z4]
 rotate_left
 ·exact hz
 ·rintro i q hI
  have hl9:=hI.1
  have hct:=hI.ct (c:=ctSym) mkSym_ct
  have hdr:=ctL_drop ctSym ts i
  rcases Classical.em (i < ts.length) with h2 | h2
  ·have h2':i < zs.length:=by omega
   have hat:=ctL_at ctSym ts i h2
   rw [ctSym] at hat
   have e0:=hI.at h2
   have hst:=hI.step h2
   have e1:zs[i].name = mkText q:=by rw [e0]; rfl
   have e2:zs[i].args = (mkL mkI ts[i].args (q + 1)).1:=by rw [e0]; rfl
   have e3:zs[i].sort = (mkL mkI ts[i].args (q + 1)).2:=by rw [e0]; rfl
   have hq:=mkI_ct ts[i].args (q + 1)
   have hn:¬ (mkL mkI ts[i].args (q + 1)).2 < 0:=by omega
   simp -implicitDefEqProofs only [go_sem,Z1,Z2,Z3,Z4,h2',e1,e2,e3]
   refine atCall [] (c_laws_markText q (by omega)) ?_ ?_ <;> simp -implicitDefEqProofs only [go_sem,Z1,Z2,Z3,Z4,e1,e2,e3,h2']
   with_reducible refine ind_andM (by kernel_rfl) ?_
   repeat (with_reducible apply And.intro; case left=>omega)
   refine atCall [] (c_laws_heldIntS ts[i].args (q + 1) (by omega) (by omega)) ?_ ?_ <;> simp -implicitDefEqProofs only [go_sem,Z1,Z2,Z3,Z4,hn,e3,h2']
   repeat (with_reducible apply And.intro; case left=>omega)
   refine ⟨i + 1,(mkL mkI ts[i].args (q + 1)).2 + 1,?_,?_,weakS [] ?_ ?_ rfl rfl⟩
   rotate_left
   ·show _ < _
    omega
   ·simp -implicitDefEqProofs only [go_sem,Z1,Z2,Z3,Z4]
   ·simp -implicitDefEqProofs only [go_sem,Z1,Z2,Z3,Z4]
   exact hst
  ·have h2':¬ i < zs.length:=by omega
   simp -implicitDefEqProofs only [go_sem,Z1,Z2,Z3,Z4,h2']
   refine fin1' ?_
   simp -implicitDefEqProofs only [go_sem,Z1,Z2,Z3,Z4]
   rw [hI.all (by omega)]
theorem c_laws_heldSig (s:Sig) (k:Int) (h0:0 ≤ k) (h1:k + ctL ctSym s.syms ≤ 4398046511104):C E.P 44 [av [.lst (rowsSym (mkL mkSym s.syms k).1)],iv k] [] (Eq2 (iv (mkL mkSym s.syms k).2) []):=by
 have hq:=mkL_ct mkSym_ct s.syms k
 have hn:¬ (mkL mkSym s.syms k).2 < 0:=by omega
 have hLB:=LB_eq
 refine C_goS (nt:=12) (rs:=[.tmp 4]) hm Tryz.func44 rfl rfl rfl rfl rfl (fun hl he=>?_)
 simp -implicitDefEqProofs only [go_sem,Z1,Z2,Z3,Z4] at hl ⊢
 refine atCall [] (c_laws_heldSymS s.syms k h0 h1) ?_ ?_ <;> simp -implicitDefEqProofs only [go_sem,Z1,Z2,Z3,Z4,hn]
 refine fin1' ?_
 simp -implicitDefEqProofs only [go_sem,Z1,Z2,Z3,Z4]
theorem c_laws_heldFormS1 (ts:List Mod.Form) (ih:∀ t ∈ ts,∀ (k:Int),0 ≤ k → k + ctForms t.kids ≤ 4398046511104 → C E.P 83 [lv (rowsForm (mkForms t.kids k).1),iv k] [] (Eq2 (iv (mkForms t.kids k).2) []))
 (k:Int) (h0:0 ≤ k) (h1:k + ctForms ts ≤ 4398046511104):C E.P 83 [lv (rowsForm (mkForms ts k).1),iv k] [] (Eq2 (iv (mkForms ts k).2) []):=by
 have hz:=Hd.zero mkForm ts k
 rw [mkForms_L]
 obtain ⟨zs,hzs⟩:∃ zs,(mkL mkForm ts k).1 = zs:=⟨_,rfl⟩
 rw [hzs] at hz ⊢
 have hLB:=LB_eq
 refine C_goS (nt:=150) (rs:=[.tmp 4]) hm Tryz.func83 rfl rfl rfl rfl rfl (fun hl he=>?_)
 simp -implicitDefEqProofs only [go_sem,Z1,Z2,Z3,Z4] at hl ⊢
 refine loop_go2 hm (fun (i:Nat) (q:Int)=> Hd mkForm ts zs k i q) (fun (i:Nat) (q:Int)=> ⟨mkS 150 .any [(0,lv (rowsForm zs)),(1,iv q),(5,iv i)],[]⟩) (fun (i:Nat) (q:Int)=> ts.length - i) (0) (k) ?_ (weakS [] ?_ ?_ rfl rfl) ?_
 rotate_left
 ·simp -implicitDefEqProofs only [go_sem,Z1,Z2,Z3,Z4]
 ·simp -implicitDefEqProofs only [go_sem,Z1,Z2,Z3,Z4]
 rotate_left
 ·exact hz
 ·rintro i q hI
  have hl9:=hI.1
  have hct:=hI.ct (c:=ctForm) mkForm_ct
  have hdr:=ctL_drop ctForm ts i
  rw [← ctForms_L ts] at hct hdr
  rcases Classical.em (i < ts.length) with h2 | h2
  ·have h2':i < zs.length:=by omega
   have hat:=ctL_at ctForm ts i h2
   rw [ctForm_eq,ctLit,ctT_eq,ctT_eq] at hat
   have e0:=hI.at h2
   have hst:=hI.step h2
   have hc:∀ (k:Int),0 ≤ k → k + ctForms ts[i].kids ≤ 4398046511104 → _:=ih ts[i] (List.getElem_mem h2)
   generalize ts[i] = t at hat e0 hst hc ⊢
   obtain ⟨r1,hr1⟩:∃ r,(mkTs t.lit.atom.A.kids (q + 1 + 1 + 1)).2 = r:=⟨_,rfl⟩
   obtain ⟨r2,hr2⟩:∃ r,(mkTs t.lit.atom.B.kids (r1 + 1)).2 = r:=⟨_,rfl⟩
   obtain ⟨r3,hr3⟩:∃ r,(mkTs t.lit.atom.nums r2).2 = r:=⟨_,rfl⟩
   obtain ⟨r4,hr4⟩:∃ r,(mkL mkI t.lit.atom.times r3).2 = r:=⟨_,rfl⟩
   obtain ⟨r5,hr5⟩:∃ r,(mkForms t.kids (r4 + 1 + 1 + 1)).2 = r:=⟨_,rfl⟩
   have hf:mkForm t q = (.mk q ⟨⟨q + 1,.mk (mkText (q + 1 + 1)) (mkTs t.lit.atom.A.kids (q + 1 + 1 + 1)).1,.mk (mkText r1) (mkTs t.lit.atom.B.kids (r1 + 1)).1,(mkTs t.lit.atom.nums r2).1,(mkL mkI t.lit.atom.times r3).1,r4,decide ((r4 + 1).tmod 3 = 0)⟩,decide ((r4 + 1 + 1).tmod 3 = 0)⟩ (mkForms t.kids (r4 + 1 + 1 + 1)).1,r5):=by
    simp only [mkForm_eq,mkLit,mkAtom,mkT_eq,hr1,hr2,hr3,hr4,hr5]
   have c1:=mkTs_ct t.lit.atom.A.kids (q + 1 + 1 + 1)
   have c2:=mkTs_ct t.lit.atom.B.kids (r1 + 1)
   have c3:=mkTs_ct t.lit.atom.nums r2
   have c4:=mkI_ct t.lit.atom.times r3
   have c5:=mkForms_ct t.kids (r4 + 1 + 1 + 1)
   rw [hr1] at c1
   rw [hr2] at c2
   rw [hr3] at c3
   rw [hr4] at c4
   rw [hr5] at c5
   rw [hf] at e0 hst
   have n1:¬ r1 < 0:=by omega
   have n2:¬ r2 < 0:=by omega
   have n3:¬ r3 < 0:=by omega
   have n4:¬ r4 < 0:=by omega
   have n5:¬ r5 < 0:=by omega
   have a1:zs[i].kind = q:=by rw [e0]; rfl
   have a2:zs[i].lit.atom.kind = q + 1:=by rw [e0]; rfl
   have a3:zs[i].lit.atom.A.name = mkText (q + 1 + 1):=by rw [e0]; rfl
   have a4:zs[i].lit.atom.A.kids = (mkTs t.lit.atom.A.kids (q + 1 + 1 + 1)).1:=by rw [e0]; rfl
   have a5:zs[i].lit.atom.B.name = mkText r1:=by rw [e0]; rfl
   have a6:zs[i].lit.atom.B.kids = (mkTs t.lit.atom.B.kids (r1 + 1)).1:=by rw [e0]; rfl
   have a7:zs[i].lit.atom.nums = (mkTs t.lit.atom.nums r2).1:=by rw [e0]; rfl
   have a8:zs[i].lit.atom.times = (mkL mkI t.lit.atom.times r3).1:=by rw [e0]; rfl
   have a9:zs[i].lit.atom.bound = r4:=by rw [e0]; rfl
   have b1:zs[i].lit.atom.strict = decide ((r4 + 1).tmod 3 = 0):=by rw [e0]; rfl
   have b2:zs[i].lit.no = decide ((r4 + 1 + 1).tmod 3 = 0):=by rw [e0]; rfl
   have b3:zs[i].kids = (mkForms t.kids (r4 + 1 + 1 + 1)).1:=by rw [e0]; rfl
   simp -implicitDefEqProofs only [go_sem,Z1,Z2,Z3,Z4,h2',a1,a2,a3,a4,a5,a6,a7,a8,a9,b1,b2,b3]
   repeat (with_reducible apply And.intro; case left=>omega)
   refine atCall [] (c_laws_markText (q + 1 + 1) (by omega)) ?_ ?_ <;> simp -implicitDefEqProofs only [go_sem,Z1,Z2,Z3,Z4,h2',a3,a4,a5,a6,a7,a8,a9,b1,b2,b3]
   with_reducible refine ind_andM (by kernel_rfl) ?_
   repeat (with_reducible apply And.intro; case left=>omega)
   refine atCall [] (c_laws_heldTermS t.lit.atom.A.kids (q + 1 + 1 + 1) (by omega) (by omega)) ?_ ?_ <;> simp -implicitDefEqProofs only [go_sem,Z1,Z2,Z3,Z4,hr1,n1,h2',a5,a6,a7,a8,a9,b1,b2,b3]
   refine atCall [] (c_laws_markText r1 (by omega)) ?_ ?_ <;> simp -implicitDefEqProofs only [go_sem,Z1,Z2,Z3,Z4,h2',a5,a6,a7,a8,a9,b1,b2,b3]
   with_reducible refine ind_andM (by kernel_rfl) ?_
   repeat (with_reducible apply And.intro; case left=>omega)
   refine atCall [] (c_laws_heldTermS t.lit.atom.B.kids (r1 + 1) (by omega) (by omega)) ?_ ?_ <;> simp -implicitDefEqProofs only [go_sem,Z1,Z2,Z3,Z4,hr2,n2,h2',a7,a8,a9,b1,b2,b3]
   refine atCall [] (c_laws_heldTermS t.lit.atom.nums r2 (by omega) (by omega)) ?_ ?_ <;> simp -implicitDefEqProofs only [go_sem,Z1,Z2,Z3,Z4,hr3,n3,h2',a8,a9,b1,b2,b3]
   refine atCall [] (c_laws_heldIntS t.lit.atom.times r3 (by omega) (by omega)) ?_ ?_ <;> simp -implicitDefEqProofs only [go_sem,Z1,Z2,Z3,Z4,hr4,n4,h2',a9,b1,b2,b3]
   repeat (with_reducible apply And.intro; case left=>omega)
   refine atCall [] ((hc (r4 + 1 + 1 + 1) (by omega) (by omega))) ?_ ?_ <;> simp -implicitDefEqProofs only [go_sem,Z1,Z2,Z3,Z4,hr5,n5]
   repeat (with_reducible apply And.intro; case left=>omega)
   refine ⟨i + 1,r5,?_,?_,weakS [] ?_ ?_ rfl rfl⟩
   rotate_left
   ·show _ < _
    omega
   ·simp -implicitDefEqProofs only [go_sem,Z1,Z2,Z3,Z4]
   ·simp -implicitDefEqProofs only [go_sem,Z1,Z2,Z3,Z4]
   exact hst
  ·have h2':¬ i < zs.length:=by omega
   simp -implicitDefEqProofs only [go_sem,Z1,Z2,Z3,Z4,h2']
   refine fin1' ?_
   simp -implicitDefEqProofs only [go_sem,Z1,Z2,Z3,Z4]
   rw [hI.all (by omega)]
theorem c_laws_heldFormS0:∀ (t:Mod.Form) (k:Int),0 ≤ k → k + ctForms t.kids ≤ 4398046511104 → C E.P 83 [lv (rowsForm (mkForms t.kids k).1),iv k] [] (Eq2 (iv (mkForms t.kids k).2) []):=
 Form.ind fun _ _ ks ih k h0 h1=>c_laws_heldFormS1 ks ih k h0 h1
theorem c_laws_heldFormS (ts:List Mod.Form) (k:Int) (h0:0 ≤ k) (h1:k + ctForms ts ≤ 4398046511104):C E.P 83 [lv (rowsForm (mkForms ts k).1),iv k] [] (Eq2 (iv (mkForms ts k).2) []):=
 c_laws_heldFormS1 ts (fun t _=>c_laws_heldFormS0 t) k h0 h1
theorem c_laws_heldFormSS (ts:List (List Mod.Form)) (k:Int) (h0:0 ≤ k) (h1:k + ctL ctForms ts ≤ 4398046511104):C E.P 45 [lv (rowsFF (mkL mkForms ts k).1),iv k] [] (Eq2 (iv (mkL mkForms ts k).2) []):=by
 have hz:=Hd.zero mkForms ts k
 obtain ⟨zs,hzs⟩:∃ zs,(mkL mkForms ts k).1 = zs:=⟨_,rfl⟩
 rw [hzs] at hz ⊢
 have hLB:=LB_eq
 refine C_goS (nt:=21) (rs:=[.tmp 4]) hm Tryz.func45 rfl rfl rfl rfl rfl (fun hl he=>?_)
 simp -implicitDefEqProofs only [go_sem,Z1,Z2,Z3,Z4] at hl ⊢
 refine loop_go2 hm (fun (i:Nat) (q:Int)=> Hd mkForms ts zs k i q) (fun (i:Nat) (q:Int)=> ⟨mkS 21 .any [(0,lv (rowsFF zs)),(1,iv q),(5,iv i)],[]⟩) (fun (i:Nat) (q:Int)=> ts.length - i) (0) (k) ?_ (weakS [] ?_ ?_ rfl rfl) ?_
 rotate_left
 ·simp -implicitDefEqProofs only [go_sem,Z1,Z2,Z3,Z4]
 ·simp -implicitDefEqProofs only [go_sem,Z1,Z2,Z3,Z4]
 rotate_left
 ·exact hz
 ·rintro i q hI
  have hl9:=hI.1
  have hct:=hI.ct (c:=ctForms) mkForms_ct
  have hdr:=ctL_drop ctForms ts i
  rcases Classical.em (i < ts.length) with h2 | h2
  ·have h2':i < zs.length:=by omega
   have hat:=ctL_at ctForms ts i h2
   have e0:=hI.at h2
   have hst:=hI.step h2
   have hq:=mkForms_ct ts[i] q
   have hn:¬ (mkForms ts[i] q).2 < 0:=by omega
   simp -implicitDefEqProofs only [go_sem,Z1,Z2,Z3,Z4,h2',e0]
   refine atCall [] (c_laws_heldFormS ts[i] q (by omega) (by omega)) ?_ ?_ <;> simp -implicitDefEqProofs only [go_sem,Z1,Z2,Z3,Z4,hn,h2']
   repeat (with_reducible apply And.intro; case left=>omega)
   refine ⟨i + 1,(mkForms ts[i] q).2,?_,?_,weakS [] ?_ ?_ rfl rfl⟩
   rotate_left
   ·show _ < _
    omega
   ·simp -implicitDefEqProofs only [go_sem,Z1,Z2,Z3,Z4]
   ·simp -implicitDefEqProofs only [go_sem,Z1,Z2,Z3,Z4]
   exact hst
  ·have h2':¬ i < zs.length:=by omega
   simp -implicitDefEqProofs only [go_sem,Z1,Z2,Z3,Z4,h2']
   refine fin1' ?_
   simp -implicitDefEqProofs only [go_sem,Z1,Z2,Z3,Z4]
   rw [hI.all (by omega)]
theorem c_laws_heldStack (s:Stack) (k:Int) (h0:0 ≤ k) (h1:k + ctL ctSym s.sig.syms + ctL ctForms s.levels ≤ 4398046511104):C E.P 12 [av (cStack (mkStack s k).1),iv k] [] (Eq2 (iv (mkStack s k).2) []):=by
 have hq:=mkL_ct mkSym_ct s.sig.syms k
 have hq2:=mkL_ct mkForms_ct s.levels (mkL mkSym s.sig.syms k).2
 have hn:¬ (mkL mkSym s.sig.syms k).2 < 0:=by omega
 have hn2:¬ (mkL mkForms s.levels (mkL mkSym s.sig.syms k).2).2 < 0:=by omega
 have e1:(mkStack s k).1.sig.syms = (mkL mkSym s.sig.syms k).1:=rfl
 have e2:(mkStack s k).1.levels = (mkL mkForms s.levels (mkL mkSym s.sig.syms k).2).1:=rfl
 have hLB:=LB_eq
 refine C_goS (nt:=18) (rs:=[.tmp 4]) hm Tryz.func12 rfl rfl rfl rfl rfl (fun hl he=>?_)
 simp -implicitDefEqProofs only [go_sem,Z1,Z2,Z3,Z4] at hl ⊢
 simp -implicitDefEqProofs only [go_sem,Z1,Z2,Z3,Z4,e1,e2]
 refine atCall [] (c_laws_heldSig s.sig k h0 (by omega)) ?_ ?_ <;> simp -implicitDefEqProofs only [go_sem,Z1,Z2,Z3,Z4,hn,e2]
 refine atCall [] (c_laws_heldFormSS s.levels (mkL mkSym s.sig.syms k).2 (by omega) (by omega)) ?_ ?_ <;> simp -implicitDefEqProofs only [go_sem,Z1,Z2,Z3,Z4,hn2]
 refine fin1' ?_
 simp -implicitDefEqProofs only [go_sem,Z1,Z2,Z3,Z4]
 rfl
end Go.Proofs.YtgeogofjlhjcmaaGreat
namespace Go.Proofs.YtgeogofjlhjcmaaGreat
open Go.Eng Go.Mod
open Int renaming reduceEq → Z1,reduceLT → Z2,reduceLE → Z3,reduceToNat → Z4
set_option maxRecDepth 100000
set_option maxHeartbeats 400000
theorem ctL_mem {α:Type} (c:α → Nat):∀ {xs:List α} {x:α},x ∈ xs → c x ≤ ctL c xs
 | a :: xs,x,h=>by
   simp only [ctL]
   rcases List.mem_cons.1 h with rfl | h
   ·omega
   ·have:=ctL_mem c h
    omega
theorem ctL_len {α:Type} (c:α → Nat) (h:∀ x,1 ≤ c x):∀ (xs:List α),xs.length ≤ ctL c xs
 | []=>by simp
 | x :: xs=>by
   have:=ctL_len c h xs
   have:=h x
   simp only [ctL,List.length_cons]
   omega
theorem c_impl_ownForms_T1 (ts:List Mod.Form) (ih:∀ t ∈ ts,ctForm t ≤ 8000000 → C E.P 119 [av (cForm t)] [] (Eq2 (.agg (formV t 0)) (formE t))) (hb9:ctForms ts ≤ 8000000):C E.P 79 [lv (rowsForm ts)] [] (Eq2 (.acc 0) [some (.tre 63 (fTs ts))]):=by
 have hln:=ctForms_len ts
 have hLB:=LB_eq
 refine C_goS (nt:=19) (rs:=[.tmp 2]) hm Tryz.func79 rfl rfl rfl rfl rfl (fun hl he=>?_)
 simp -implicitDefEqProofs only [go_sem,Z1,Z2,Z3,Z4] at hl ⊢
 refine loop_go1 hm (fun (i:Nat)=> i ≤ ts.length) (fun (i:Nat)=> ⟨mkS 19 .any [(3,.acc 0),(6,lv (rowsForm ts)),(7,iv ts.length),(8,iv i)],[some (.tre 63 (fTs (ts.take i)))]⟩) (fun (i:Nat)=> ts.length - i) (0) ?_ (weakS [none] ?_ ?_ rfl rfl) ?_
 rotate_left
 ·simp -implicitDefEqProofs only [go_sem,Z1,Z2,Z3,Z4]
 ·simp -implicitDefEqProofs only [go_sem,Z1,Z2,Z3,Z4]
  all_goals (rfl)
 rotate_left
 ·omega
 ·rintro i hi
  have hp:(fTs (ts.take i)).length = i:=by rw [fTs_len,List.length_take]; omega
  rcases Classical.em (i < ts.length) with h1 | h1
  ·have hc9:ctForm ts[i] ≤ 8000000:=by
    have:=ctL_mem ctForm (List.getElem_mem h1)
    rw [← ctForms_L] at this
    omega
   simp -implicitDefEqProofs only [go_sem,Z1,Z2,Z3,Z4,h1]
   have hc:=ih ts[i] (List.getElem_mem h1) hc9
   refine atOwn [] [2,3,4,5,6] hc ?_ ?_ <;> simp -implicitDefEqProofs only [go_sem,Z1,Z2,Z3,Z4]
   repeat (with_reducible apply And.intro; case left=>omega)
   refine ⟨i + 1,?_,?_,weak_put 8 i _ rfl (by rw [List.length_append,hp]; simp) (rwT_endn hp) ?_⟩
   rotate_left
   ·show _ < _
    omega
   ·simp -implicitDefEqProofs only [go_sem,Z1,Z2,Z3,Z4]
    refine weakS [some 8] ?_ ?_ rfl rfl
    ·simp -implicitDefEqProofs only [go_sem,Z1,Z2,Z3,Z4]
    ·simp -implicitDefEqProofs only [go_sem,Z1,Z2,Z3,Z4]
     all_goals (rw [set_endn hp]; exact ⟨fTs_snoc h1,(congrArg (fun z=>(frzRows z).isSome) (fTs_snoc h1)).trans (fTs_ok _)⟩)
   exact h1
  ·simp -implicitDefEqProofs only [go_sem,Z1,Z2,Z3,Z4,h1]
   refine finM' [some 0] ?_ rfl rfl
   simp -implicitDefEqProofs only [go_sem,Z1,Z2,Z3,Z4]
   rw [List.take_of_length_le (by omega)]
theorem c_impl_Form_own_T1 (t:Mod.Form) (ih:∀ k ∈ t.kids,ctForm k ≤ 8000000 → C E.P 119 [av (cForm k)] [] (Eq2 (.agg (formV k 0)) (formE k))) (hb9:ctForm t ≤ 8000000):C E.P 119 [av (cForm t)] [] (Eq2 (.agg (formV t 0)) (formE t)):=by
 rw [ctForm_eq,ctLit] at hb9
 have hLB:=LB_eq
 refine C_goS (nt:=14) (rs:=[.cell 2 63]) hm Tryz.func119 rfl rfl rfl rfl rfl (fun hl he=>?_)
 simp -implicitDefEqProofs only [go_sem,Z1,Z2,Z3,Z4] at hl ⊢
 refine atOwn [] [2,3,4,5] (c_impl_Atom_own_T t.lit.atom (by omega)) ?_ ?_ <;> simp -implicitDefEqProofs only [go_sem,Z1,Z2,Z3,Z4]
 refine atOwn [] [6] (c_impl_ownForms_T1 t.kids ih (by omega)) ?_ ?_ <;> simp -implicitDefEqProofs only [go_sem,Z1,Z2,Z3,Z4]
 refine finM' [some 2,some 3,some 4,some 5,some 6] ?_ rfl rfl
 simp -implicitDefEqProofs only [go_sem,Z1,Z2,Z3,Z4]
theorem c_impl_Form_own_T:∀ (t:Mod.Form),ctForm t ≤ 8000000 → C E.P 119 [av (cForm t)] [] (Eq2 (.agg (formV t 0)) (formE t)):=
 Form.ind fun _ _ _ ih hb=>c_impl_Form_own_T1 _ ih hb
theorem c_impl_ownForms_T (ts:List Mod.Form) (hb9:ctForms ts ≤ 8000000):C E.P 79 [lv (rowsForm ts)] [] (Eq2 (.acc 0) [some (.tre 63 (fTs ts))]):=c_impl_ownForms_T1 ts (fun t _=>c_impl_Form_own_T t) hb9
theorem c_impl_Sig_own_T (s:Sig) (hb9:ctL ctSym s.syms ≤ 8000000):C E.P 78 [av (cSig s)] [] (Eq2 (.agg [.acc 0]) [some (.tre 183 (symT s.syms))]):=by
 have hln:=ctL_len ctSym (fun x=>by unfold ctSym; omega) s.syms
 have hLB:=LB_eq
 refine C_goS (nt:=25) (rs:=[.cell 2 31]) hm Tryz.func78 rfl rfl rfl rfl rfl (fun hl he=>?_)
 simp -implicitDefEqProofs only [go_sem,Z1,Z2,Z3,Z4] at hl ⊢
 refine loop_go1 hm (fun (i:Nat)=> i ≤ s.syms.length) (fun (i:Nat)=> ⟨mkS 25 .any [(2,.ptr 1 0),(3,.ptr 2 0),(7,lv (rowsSym s.syms)),(8,iv s.syms.length),(9,iv i)],[some (.box (pvs (cSig s))),some (.box [.nilS]),some (.box [.acc 3]),some (.tre 183 (symT (s.syms.take i)))]⟩) (fun (i:Nat)=> s.syms.length - i) (0) ?_ (weakS [some 0,some 1,some 2,none] ?_ ?_ rfl rfl) ?_
 rotate_left
 ·simp -implicitDefEqProofs only [go_sem,Z1,Z2,Z3,Z4]
 ·simp -implicitDefEqProofs only [go_sem,Z1,Z2,Z3,Z4]
  all_goals (rfl)
 rotate_left
 ·omega
 ·rintro i hi
  have hp:(symT (s.syms.take i)).length = i:=by rw [symT_len,List.length_take]; omega
  rcases Classical.em (i < s.syms.length) with h1 | h1
  ·have hc9:=ctL_mem ctSym (List.getElem_mem h1)
   rw [ctSym] at hc9
   simp -implicitDefEqProofs only [go_sem,Z1,Z2,Z3,Z4,h1]
   refine atOwn [] [5] (c_Clone_int_T s.syms[i].args (by omega)) ?_ ?_ <;> simp -implicitDefEqProofs only [go_sem,Z1,Z2,Z3,Z4]
   repeat (with_reducible apply And.intro; case left=>omega)
   refine ⟨i + 1,?_,?_,weak_put 7 i _ rfl (by rw [List.length_append,hp]; simp) (rwT_endn hp) ?_⟩
   rotate_left
   ·show _ < _
    omega
   ·simp -implicitDefEqProofs only [go_sem,Z1,Z2,Z3,Z4]
    refine weakS [some 0,some 1,some 2,some 7] ?_ ?_ rfl rfl
    ·simp -implicitDefEqProofs only [go_sem,Z1,Z2,Z3,Z4]
    ·simp -implicitDefEqProofs only [go_sem,Z1,Z2,Z3,Z4]
     all_goals (rw [set_endn hp]; exact ⟨symT_snoc h1,(congrArg (fun z=>(frzRows z).isSome) (symT_snoc h1)).trans (symT_ok _)⟩)
   exact h1
  ·simp -implicitDefEqProofs only [go_sem,Z1,Z2,Z3,Z4,h1]
   refine finM' [some 3] ?_ rfl rfl
   simp -implicitDefEqProofs only [go_sem,Z1,Z2,Z3,Z4]
   rw [List.take_of_length_le (by omega)]
theorem c_impl_Stack_own_T (s:Stack) (hb9:ctStack s ≤ 8000000) (hl9:s.levels.length ≤ 8000000):C E.P 39 [av (cStack s)] [] (Eq2 (.agg [.acc 0,.acc 1]) [some (.tre 183 (symT s.sig.syms)),some (.tre 61 (lT s.levels))]):=by
 rw [ctStack] at hb9
 have hLB:=LB_eq
 refine C_goS (nt:=26) (rs:=[.cell 2 34]) hm Tryz.func39 rfl rfl rfl rfl rfl (fun hl he=>?_)
 simp -implicitDefEqProofs only [go_sem,Z1,Z2,Z3,Z4] at hl ⊢
 refine atOwn [] [2] (c_impl_Sig_own_T s.sig (by omega)) ?_ ?_ <;> simp -implicitDefEqProofs only [go_sem,Z1,Z2,Z3,Z4]
 refine loop_go1 hm (fun (i:Nat)=> i ≤ s.levels.length) (fun (i:Nat)=> ⟨mkS 26 .any [(2,.ptr 1 0),(3,.ptr 3 0),(11,lv (rowsFF s.levels)),(12,iv s.levels.length),(13,iv i)],[some (.box (pvs (cStack s))),some (.box [.nilS,.nilS]),some (.tre 183 (symT s.sig.syms)),some (.box [.acc 2,.acc 4]),some (.tre 61 (lT (s.levels.take i)))]⟩) (fun (i:Nat)=> s.levels.length - i) (0) ?_ (weakS [some 0,some 1,some 2,some 3,none] ?_ ?_ rfl rfl) ?_
 rotate_left
 ·simp -implicitDefEqProofs only [go_sem,Z1,Z2,Z3,Z4]
 ·simp -implicitDefEqProofs only [go_sem,Z1,Z2,Z3,Z4]
  all_goals (rfl)
 rotate_left
 ·omega
 ·rintro i hi
  have hp:(lT (s.levels.take i)).length = i:=by rw [lT_len,List.length_take]; omega
  rcases Classical.em (i < s.levels.length) with h1 | h1
  ·have hc9:=ctL_mem ctForms (List.getElem_mem h1)
   simp -implicitDefEqProofs only [go_sem,Z1,Z2,Z3,Z4,h1]
   refine atOwn [] [5] (c_impl_ownForms_T s.levels[i] (by omega)) ?_ ?_ <;> simp -implicitDefEqProofs only [go_sem,Z1,Z2,Z3,Z4]
   repeat (first | with_reducible refine ind_andM (by kernel_rfl) ?_ | (with_reducible apply And.intro; case left=>omega))
   refine ⟨i + 1,?_,?_,weak_put 7 i _ rfl (by rw [List.length_append,hp]; simp) (rwT_endn hp) ?_⟩
   rotate_left
   ·show _ < _
    omega
   ·simp -implicitDefEqProofs only [go_sem,Z1,Z2,Z3,Z4]
    refine weakS [some 0,some 1,some 2,some 3,some 7] ?_ ?_ rfl rfl
    ·simp -implicitDefEqProofs only [go_sem,Z1,Z2,Z3,Z4]
    ·simp -implicitDefEqProofs only [go_sem,Z1,Z2,Z3,Z4]
     all_goals (rw [set_endn hp]; exact ⟨lT_snoc h1,(congrArg (fun z=>(frzRows z).isSome) (lT_snoc h1)).trans (lT_ok _)⟩)
   exact h1
  ·simp -implicitDefEqProofs only [go_sem,Z1,Z2,Z3,Z4,h1]
   refine finM' [some 2,some 4] ?_ rfl rfl
   simp -implicitDefEqProofs only [go_sem,Z1,Z2,Z3,Z4]
   rw [List.take_of_length_le (by omega)]
theorem c_impl_Stack_forms (s:Stack) (hl9:s.levels.flatten.length ≤ 8000000):C E.P 77 [av (cStack s)] [] (Eq2 (lv (rowsForm s.levels.flatten)) []):=by
 have hLB:=LB_eq
 refine C_goS (nt:=18) (rs:=[.tmp 2]) hm Tryz.func77 rfl rfl rfl rfl rfl (fun hl he=>?_)
 simp -implicitDefEqProofs only [go_sem,Z1,Z2,Z3,Z4] at hl ⊢
 refine loop_go1 hm (fun (i:Nat)=> i ≤ s.levels.length) (fun (i:Nat)=> ⟨mkS 18 .any [(3,.acc 1),(7,lv (rowsFF s.levels)),(8,iv s.levels.length),(9,iv i)],[some (.box (pvs (cStack s))),some (.acc 63 (rowsForm (s.levels.take i).flatten))]⟩) (fun (i:Nat)=> s.levels.length - i) (0) ?_ (weakS [some 0,none] ?_ ?_ rfl rfl) ?_
 rotate_left
 ·simp -implicitDefEqProofs only [go_sem,Z1,Z2,Z3,Z4]
 ·simp -implicitDefEqProofs only [go_sem,Z1,Z2,Z3,Z4]
  all_goals (rfl)
 rotate_left
 ·omega
 ·rintro i hi
  rcases Classical.em (i < s.levels.length) with h1 | h1
  ·have e:rowsForm (s.levels.take i).flatten ++ rowsForm s.levels[i] = rowsForm (s.levels.take (i + 1)).flatten:=by
    have e:s.levels.take (i + 1) = s.levels.take i ++ [s.levels[i]]:=by rw [List.take_add_one,List.getElem?_eq_getElem h1]; rfl
    rw [rowsForm_app,e,List.flatten_append]
    simp
   have e2:s.levels.flatten.length = (s.levels.take (i + 1)).flatten.length + (s.levels.drop (i + 1)).flatten.length:=by
    rw [← List.length_append,← List.flatten_append,List.take_append_drop]
   have e3:(s.levels.take (i + 1)).flatten.length = (s.levels.take i).flatten.length + s.levels[i].length:=by
    have:=congrArg List.length e
    rw [List.length_append,rowsForm_len,rowsForm_len,rowsForm_len] at this
    exact this.symm
   have hall:=rowsForm_all s.levels[i]
   simp -implicitDefEqProofs only [go_sem,Z1,Z2,Z3,Z4,h1]
   repeat (with_reducible apply And.intro; case left=>first | omega | exact ⟨rowsForm_all _,by omega⟩)
   refine ⟨i + 1,?_,?_,weakS [some 0,some 2] ?_ ?_ rfl rfl⟩
   rotate_left
   ·show _ < _
    omega
   ·simp -implicitDefEqProofs only [go_sem,Z1,Z2,Z3,Z4]
   ·simp -implicitDefEqProofs only [go_sem,Z1,Z2,Z3,Z4]
    all_goals (exact e)
   exact h1
  ·simp -implicitDefEqProofs only [go_sem,Z1,Z2,Z3,Z4,h1]
   refine fin1' ?_
   simp -implicitDefEqProofs only [go_sem,Z1,Z2,Z3,Z4]
   rw [List.take_of_length_le (by omega)]
theorem c_impl_StackOk (s:Stack) (hl9:s.levels.flatten.length ≤ 8000000):C E.P 38 [av (cStack s)] [] (Eq2 (bv (stackOk s)) []):=by
 have hLB:=LB_eq
 refine C_goS (nt:=14) (rs:=[.tmp 2]) hm Tryz.func38 rfl rfl rfl rfl rfl (fun hl he=>?_)
 simp -implicitDefEqProofs only [go_sem,Z1,Z2,Z3,Z4] at hl ⊢
 refine atCall [] (c_impl_within s.levels.length 1 4) ?_ ?_ <;> simp -implicitDefEqProofs only [go_sem,Z1,Z2,Z3,Z4]
 cases hw:within s.levels.length 1 4
 ·simp -implicitDefEqProofs only [go_sem,Z1,Z2,Z3,Z4]
  with_reducible refine ind_andM (by kernel_rfl) ?_
  refine fin1' ?_
  simp -implicitDefEqProofs only [go_sem,Z1,Z2,Z3,Z4]
  all_goals (simp [stackOk,hw]; done)
 ·simp -implicitDefEqProofs only [go_sem,Z1,Z2,Z3,Z4]
  refine atCall [] (c_impl_Stack_forms s hl9) ?_ ?_ <;> simp -implicitDefEqProofs only [go_sem,Z1,Z2,Z3,Z4]
  refine atCall [] (c_impl_FormsOk s.sig s.levels.flatten) ?_ ?_ <;> simp -implicitDefEqProofs only [go_sem,Z1,Z2,Z3,Z4]
  with_reducible refine ind_andM (by kernel_rfl) ?_
  refine fin1' ?_
  simp -implicitDefEqProofs only [go_sem,Z1,Z2,Z3,Z4]
  all_goals (simp [stackOk,hw]; done)
end Go.Proofs.YtgeogofjlhjcmaaGreat
