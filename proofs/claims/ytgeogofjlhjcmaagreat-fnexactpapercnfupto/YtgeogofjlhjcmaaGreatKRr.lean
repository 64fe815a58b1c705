/-
  Marks written into what shares nothing: the walks. A step towards the exact laws.
-/
import Derived.Test.YtgeogofjlhjcmaaGreatKRq
set_option linter.unusedVariables false
set_option linter.unusedSimpArgs false
namespace Go.Proofs.YtgeogofjlhjcmaaGreat
open Go.Eng Go.Mod
open Int renaming reduceEq → Z1,reduceLT → Z2,reduceLE → Z3,reduceToNat → Z4
set_option maxRecDepth 100000
set_option maxHeartbeats 400000
theorem decGo_step {n:Nat} {k:Int} {s:Str} (h:0 < k):decGo (n + 1) k s = decGo n (k.tdiv 10) (UInt8.ofNat (48 + k.tmod 10).toNat :: s):=by rw [decGo,if_pos h]
theorem c_laws_markText (k:Int) (h1:k ≤ 4398046511104):C E.P 63 [iv k] [] (Eq2 (sv (mkText k)) []):=by
 have hLB:=LB_eq
 refine C_goS (nt:=20) (rs:=[.tmp 2]) hm Tryz.func63 rfl rfl rfl rfl rfl (fun hl he=>?_)
 simp -implicitDefEqProofs only [go_sem,Z1,Z2,Z3,Z4] at hl ⊢
 rcases Classical.em (k ≤ 0) with h2 | h2
 ·simp -implicitDefEqProofs only [go_sem,Z1,Z2,Z3,Z4,h2]
  refine fin1' ?_
  simp -implicitDefEqProofs only [go_sem,Z1,Z2,Z3,Z4]
  rw [mkText,if_pos h2]
 ·simp -implicitDefEqProofs only [go_sem,Z1,Z2,Z3,Z4,h2]
  have e0:mkText k = 109 :: decGo 20 k []:=by rw [mkText,if_neg h2]
  rw [e0]
  refine loop_go3 hm (fun (n:Nat) (m:Int) (s:Str)=> 0 ≤ m ∧ m ≤ 4398046511104 ∧ m < 10 ^ n ∧ n ≤ 20 ∧ s.length + n ≤ 20 ∧ decGo 20 k [] = decGo n m s) (fun (n:Nat) (m:Int) (s:Str)=> ⟨mkS 20 .any [(0,iv m),(3,sv s)],[]⟩) (fun (n:Nat) (m:Int) (s:Str)=> m.toNat) (20) (k) (([]:Str)) ?_ (weakS [] ?_ ?_ rfl rfl) ?_
  rotate_left
  ·simp -implicitDefEqProofs only [go_sem,Z1,Z2,Z3,Z4]
  ·simp -implicitDefEqProofs only [go_sem,Z1,Z2,Z3,Z4]
  rotate_left
  ·exact ⟨by omega,by omega,by omega,by omega,by simp,rfl⟩
  ·rintro n m s ⟨hm0,hm2,hm1,hn,hs,hd⟩
   rcases Classical.em (0 < m) with h3 | h3
   ·have d0:m.tmod 10 = m % 10:=Int.tmod_eq_emod_of_nonneg hm0
    have d1:m.tdiv 10 = m / 10:=Int.tdiv_eq_ediv_of_nonneg hm0
    have hw:IntKind.u8.wrap (48 + m.tmod 10) = 48 + m.tmod 10:=by
     rw [d0]
     exact IntWalk.u8_in _ ⟨by omega,by omega⟩
    simp -implicitDefEqProofs only [go_sem,Z1,Z2,Z3,Z4,h3,hw]
    repeat (with_reducible apply And.intro; case left=>omega)
    refine atOp_by (st_b2s (.tmp 12) 173 9 5 _ _ _ [48 + m.tmod 10] rfl rfl rfl rfl rfl rfl (by simp -implicitDefEqProofs only [go_sem,Z1,Z2,Z3,Z4]; rfl)) ?_
    have hbl:(byS [48 + m.tmod 10]).length = 1:=rfl
    simp -implicitDefEqProofs only [go_sem,Z1,Z2,Z3,Z4,hbl]
    repeat (with_reducible apply And.intro; case left=>omega)
    obtain ⟨n',rfl⟩:∃ n',n = n' + 1:=⟨n - 1,by
     rcases n with _ | n
     ·simp at hm1; omega
     ·rfl⟩
    refine ⟨n',m.tdiv 10,byS [48 + m.tmod 10] ++ s,?_,?_,weakS [] ?_ ?_ rfl rfl⟩
    rotate_left
    ·show _ < _
     omega
    ·simp -implicitDefEqProofs only [go_sem,Z1,Z2,Z3,Z4]
    ·simp -implicitDefEqProofs only [go_sem,Z1,Z2,Z3,Z4]
    refine ⟨by omega,by omega,?_,by omega,?_,?_⟩
    ·rw [Int.pow_succ] at hm1
     rw [d1]
     omega
    ·simp [byS]
     omega
    ·rw [hd,decGo_step h3]
     rfl
   ·simp -implicitDefEqProofs only [go_sem,Z1,Z2,Z3,Z4,h3]
    refine ⟨by omega,?_⟩
    refine fin1' ?_
    simp -implicitDefEqProofs only [go_sem,Z1,Z2,Z3,Z4]
    rw [hd]
    cases n with
    | zero=>rfl
    | succ n=>rw [decGo,if_neg h3]
theorem c_laws_markIntS (ts:List Int) (k:Int) (h0:0 ≤ k) (h1:k + ts.length ≤ 4398046511104):C E.P 65 [.acc 0,iv k] [some (.tre 3 (intT ts))] (Eq2 (iv (mkL mkI ts k).2) [some (.tre 3 (intT (mkL mkI ts k).1))]):=by
 have hLB:=LB_eq
 refine C_goS (nt:=19) (rs:=[.tmp 4]) hm Tryz.func65 rfl rfl rfl rfl rfl (fun hl he=>?_)
 simp -implicitDefEqProofs only [go_sem,Z1,Z2,Z3,Z4] at hl ⊢
 refine loop_go3 hm (fun (i:Nat) (zs:List Int) (q:Int)=> Mk mkI ts k i zs q) (fun (i:Nat) (zs:List Int) (q:Int)=> ⟨mkS 19 .any [(0,.acc 0),(1,iv q),(5,iv i)],[some (.tre 3 (intT zs))]⟩) (fun (i:Nat) (zs:List Int) (q:Int)=> ts.length - i) (0) (ts) (k) ?_ (weakS [some 0] ?_ ?_ rfl rfl) ?_
 rotate_left
 ·simp -implicitDefEqProofs only [go_sem,Z1,Z2,Z3,Z4]
 ·simp -implicitDefEqProofs only [go_sem,Z1,Z2,Z3,Z4]
 rotate_left
 ·exact Mk.zero _ _ _
 ·rintro i zs q hI
  have hl9:=hI.len
  have hct:=hI.ct (c:=fun _=>1) (fun x k=>rfl)
  rw [ctL_one,ctL_one,List.length_drop] at hct
  rcases Classical.em (i < ts.length) with h2 | h2
  ·have h2':i < zs.length:=by omega
   have hrow:rwT (intT zs) i = [.leaf (.val (.int .i64 zs[i]))]:=intT_row h2'
   have hset:(intT zs).set i [.leaf (.val (.int .i64 q))] = intT (zs.set i q):=intT_set zs i q
   simp -implicitDefEqProofs only [go_sem,Z1,Z2,Z3,Z4,h2,hl9,hrow]
   repeat (with_reducible apply And.intro; case left=>omega)
   refine ⟨i + 1,zs.set i q,q + 1,?_,?_,weakS [some 0] ?_ ?_ rfl rfl⟩
   rotate_left
   ·show _ < _
    omega
   ·simp -implicitDefEqProofs only [go_sem,Z1,Z2,Z3,Z4]
   ·simp -implicitDefEqProofs only [go_sem,Z1,Z2,Z3,Z4]
    all_goals (exact ⟨hset,by rw [hset]; exact intT_ok _⟩)
   exact hI.step h2
  ·have hA:=hI.all (by omega)
   simp -implicitDefEqProofs only [go_sem,Z1,Z2,Z3,Z4,h2,hl9]
   refine finM' [some 0] ?_ rfl rfl
   simp -implicitDefEqProofs only [go_sem,Z1,Z2,Z3,Z4]
   rw [hA]
   exact ⟨rfl,rfl⟩
theorem c_laws_markTermS1 (ts:List Term) (ih:∀ t ∈ ts,∀ (k:Int),0 ≤ k → k + ctTs t.kids ≤ 4398046511104 → C E.P 64 [.acc 0,iv k] [some (.tre 56 (tTs t.kids))] (Eq2 (iv (mkTs t.kids k).2) [some (.tre 56 (tTs (mkTs t.kids k).1))]))
 (k:Int) (h0:0 ≤ k) (h1:k + ctTs ts ≤ 4398046511104):C E.P 64 [.acc 0,iv k] [some (.tre 56 (tTs ts))] (Eq2 (iv (mkTs ts k).2) [some (.tre 56 (tTs (mkTs ts k).1))]):=by
 rw [mkTs_L]
 have hLB:=LB_eq
 refine C_goS (nt:=28) (rs:=[.tmp 4]) hm Tryz.func64 rfl rfl rfl rfl rfl (fun hl he=>?_)
 simp -implicitDefEqProofs only [go_sem,Z1,Z2,Z3,Z4] at hl ⊢
 simp -implicitDefEqProofs only [go_sem,Z1,Z2,Z3,Z4] at he
 refine loop_gow3 (fun (i:Nat) (zs:List Term) (q:Int)=> Mk mkT ts k i zs q) (fun (i:Nat) (zs:List Term) (q:Int)=> ⟨mkS 28 .any [(0,.acc 0),(1,iv q),(5,iv i)],[some (.tre 56 (tTs zs))]⟩) (fun (i:Nat) (zs:List Term) (q:Int)=> ts.length - i) (0) (ts) (k) ?_ (weakS [some 0] ?_ ?_ rfl rfl) ?_
 rotate_left
 ·simp -implicitDefEqProofs only [go_sem,Z1,Z2,Z3,Z4]
 ·simp -implicitDefEqProofs only [go_sem,Z1,Z2,Z3,Z4]
 rotate_left
 ·exact Mk.zero _ _ _
 ·rintro i zs q hI
  have hl9:=hI.len
  have hct:=hI.ct (c:=ctT) mkT_ct
  have hdr:=ctL_drop ctT ts i
  rw [← ctTs_L ts] at hct hdr
  rcases Classical.em (i < ts.length) with h2 | h2
  ·have h2':i < zs.length:=by omega
   have h2'':i < (tTs zs).length:=by rw [tTs_len]; exact h2'
   have hat:=ctL_at ctT ts i h2
   rw [ctT_eq] at hat
   have hrow:rwT (tTs zs) i = [.leaf (.str ts[i].name),.own 56 (tTs ts[i].kids)]:=by rw [tTs_row h2',hI.at h2]; rfl
   have hrs:∀ r,rwT ((tTs zs).set i r) i = r:=fun r=>rwT_set h2''
   have hmk:=hI.step h2
   rw [mkT_eq] at hmk
   have hset:=tTs_set zs i (.mk (mkText q) (mkTs ts[i].kids (q + 1)).1)
   refine W_take hm 0 i _ rfl h2'' hrow ?_
   simp -implicitDefEqProofs only [go_sem,Z1,Z2,Z3,Z4,h2,hl9,hrs]
   refine atCall [] (c_laws_markText q (by omega)) ?_ ?_ <;> simp -implicitDefEqProofs only [go_sem,Z1,Z2,Z3,Z4,hrs,hl9]
   repeat (with_reducible apply And.intro; case left=>omega)
   refine atOwn [] [1] ((ih ts[i] (List.getElem_mem h2) (q + 1) (by omega) (by omega))) ?_ ?_ <;> simp -implicitDefEqProofs only [go_sem,Z1,Z2,Z3,Z4]
   repeat (with_reducible apply And.intro; case left=>omega)
   refine ⟨i + 1,zs.set i (.mk (mkText q) (mkTs ts[i].kids (q + 1)).1),(mkTs ts[i].kids (q + 1)).2,?_,?_,weak_put 0 i _ rfl (by rw [List.length_set]; exact h2'') (hrs _) ?_⟩
   rotate_left
   ·show _ < _
    omega
   ·simp -implicitDefEqProofs only [go_sem,Z1,Z2,Z3,Z4]
    refine weakS [some 0] ?_ ?_ rfl rfl
    ·simp -implicitDefEqProofs only [go_sem,Z1,Z2,Z3,Z4]
    ·simp -implicitDefEqProofs only [go_sem,Z1,Z2,Z3,Z4]
     all_goals (exact ⟨hset,(congrArg (fun z=>(frzRows z).isSome) hset).trans (tTs_ok _)⟩)
   exact hmk
  ·have hA:=hI.all (by omega)
   refine W_ofc hm ?_
   simp -implicitDefEqProofs only [go_sem,Z1,Z2,Z3,Z4,h2,hl9]
   refine finM' [some 0] ?_ rfl rfl
   simp -implicitDefEqProofs only [go_sem,Z1,Z2,Z3,Z4]
   rw [hA]
   exact ⟨rfl,rfl⟩
theorem c_laws_markTermS0:∀ (t:Term) (k:Int),0 ≤ k → k + ctTs t.kids ≤ 4398046511104 → C E.P 64 [.acc 0,iv k] [some (.tre 56 (tTs t.kids))] (Eq2 (iv (mkTs t.kids k).2) [some (.tre 56 (tTs (mkTs t.kids k).1))]):=
 Term.ind fun _ ks ih k h0 h1=>c_laws_markTermS1 ks ih k h0 h1
theorem c_laws_markTermS (ts:List Term) (k:Int) (h0:0 ≤ k) (h1:k + ctTs ts ≤ 4398046511104):C E.P 64 [.acc 0,iv k] [some (.tre 56 (tTs ts))] (Eq2 (iv (mkTs ts k).2) [some (.tre 56 (tTs (mkTs ts k).1))]):=
 c_laws_markTermS1 ts (fun t _=>c_laws_markTermS0 t) k h0 h1
theorem c_laws_markFormS1 (ts:List Mod.Form) (ih:∀ t ∈ ts,∀ (k:Int),0 ≤ k → k + ctForms t.kids ≤ 4398046511104 → C E.P 28 [.acc 0,iv k] [some (.tre 63 (fTs t.kids))] (Eq2 (iv (mkForms t.kids k).2) [some (.tre 63 (fTs (mkForms t.kids k).1))]))
 (k:Int) (h0:0 ≤ k) (h1:k + ctForms ts ≤ 4398046511104):C E.P 28 [.acc 0,iv k] [some (.tre 63 (fTs ts))] (Eq2 (iv (mkForms ts k).2) [some (.tre 63 (fTs (mkForms ts k).1))]):=by
 rw [mkForms_L]
 have hLB:=LB_eq
 refine C_goS (nt:=126) (rs:=[.tmp 4]) hm Tryz.func28 rfl rfl rfl rfl rfl (fun hl he=>?_)
 simp -implicitDefEqProofs only [go_sem,Z1,Z2,Z3,Z4] at hl ⊢
 simp -implicitDefEqProofs only [go_sem,Z1,Z2,Z3,Z4] at he
 refine loop_gow3 (fun (i:Nat) (zs:List Mod.Form) (q:Int)=> Mk mkForm ts k i zs q) (fun (i:Nat) (zs:List Mod.Form) (q:Int)=> ⟨mkS 126 .any [(0,.acc 0),(1,iv q),(5,iv i)],[some (.tre 63 (fTs zs))]⟩) (fun (i:Nat) (zs:List Mod.Form) (q:Int)=> ts.length - i) (0) (ts) (k) ?_ (weakS [some 0] ?_ ?_ rfl rfl) ?_
 rotate_left
 ·simp -implicitDefEqProofs only [go_sem,Z1,Z2,Z3,Z4]
 ·simp -implicitDefEqProofs only [go_sem,Z1,Z2,Z3,Z4]
 rotate_left
 ·exact Mk.zero _ _ _
 ·rintro i zs q hI
  have hl9:=hI.len
  have hct:=hI.ct (c:=ctForm) mkForm_ct
  have hdr:=ctL_drop ctForm ts i
  rw [← ctForms_L ts] at hct hdr
  rcases Classical.em (i < ts.length) with h2 | h2
  ·have h2':i < zs.length:=by omega
   have h2'':i < (fTs zs).length:=by rw [fTs_len]; exact h2'
   have hat:=ctL_at ctForm ts i h2
   rw [ctForm_eq,ctLit,ctT_eq,ctT_eq] at hat
   have hrow:rwT (fTs zs) i = cFT ts[i]:=by rw [fTs_row h2',hI.at h2]
   have hrs:∀ r,rwT ((fTs zs).set i r) i = r:=fun r=>rwT_set h2''
   have hmk:=hI.step h2
   have hc:∀ (k:Int),0 ≤ k → k + ctForms ts[i].kids ≤ 4398046511104 → _:=ih ts[i] (List.getElem_mem h2)
   generalize ts[i] = t at hat hrow hmk hc ⊢
   obtain ⟨r1,hr1⟩:∃ r,(mkTs t.lit.atom.A.kids (q + 1 + 1 + 1)).2 = r:=⟨_,rfl⟩
   obtain ⟨r2,hr2⟩:∃ r,(mkTs t.lit.atom.B.kids (r1 + 1)).2 = r:=⟨_,rfl⟩
   obtain ⟨r3,hr3⟩:∃ r,(mkTs t.lit.atom.nums r2).2 = r:=⟨_,rfl⟩
   obtain ⟨r4,hr4⟩:∃ r,(mkL mkI t.lit.atom.times r3).2 = r:=⟨_,rfl⟩
   have hf:mkForm t q = (.mk q ⟨⟨q + 1,.mk (mkText (q + 1 + 1)) (mkTs t.lit.atom.A.kids (q + 1 + 1 + 1)).1,.mk (mkText r1) (mkTs t.lit.atom.B.kids (r1 + 1)).1,(mkTs t.lit.atom.nums r2).1,(mkL mkI t.lit.atom.times r3).1,r4,decide ((r4 + 1).tmod 3 = 0)⟩,decide ((r4 + 1 + 1).tmod 3 = 0)⟩ (mkForms t.kids (r4 + 1 + 1 + 1)).1,(mkForms t.kids (r4 + 1 + 1 + 1)).2):=by
    simp only [mkForm_eq,mkLit,mkAtom,mkT_eq,hr1,hr2,hr3,hr4]
   have c1:=mkTs_ct t.lit.atom.A.kids (q + 1 + 1 + 1)
   have c2:=mkTs_ct t.lit.atom.B.kids (r1 + 1)
   have c3:=mkTs_ct t.lit.atom.nums r2
   have c4:=mkI_ct t.lit.atom.times r3
   rw [hr1] at c1
   rw [hr2] at c2
   rw [hr3] at c3
   rw [hr4] at c4
   have hset:=fTs_set zs i (mkForm t q).1
   obtain ⟨zs',hz⟩:∃ zs',zs' = zs.set i (mkForm t q).1:=⟨_,rfl⟩
   rw [← hz] at hmk hset
   rw [hf] at hmk hset
   simp only [cFT,Form.kind,Form.lit,Form.kids,Term.name,Term.kids] at hset
   rw [cFT] at hrow
   refine W_take hm 0 i _ rfl h2'' hrow ?_
   simp -implicitDefEqProofs only [go_sem,Z1,Z2,Z3,Z4,h2,hl9,hrs]
   repeat (with_reducible apply And.intro; case left=>omega)
   refine atCall [] (c_laws_markText (q + 1 + 1) (by omega)) ?_ ?_ <;> simp -implicitDefEqProofs only [go_sem,Z1,Z2,Z3,Z4,hrs,hl9]
   repeat (with_reducible apply And.intro; case left=>omega)
   refine atOwn [] [1] (c_laws_markTermS t.lit.atom.A.kids (q + 1 + 1 + 1) (by omega) (by omega)) ?_ ?_ <;> simp -implicitDefEqProofs only [go_sem,Z1,Z2,Z3,Z4,hrs,hl9]
   rw [hr1]
   refine atCall [] (c_laws_markText r1 (by omega)) ?_ ?_ <;> simp -implicitDefEqProofs only [go_sem,Z1,Z2,Z3,Z4,hrs,hl9]
   repeat (with_reducible apply And.intro; case left=>omega)
   refine atOwn [] [2] (c_laws_markTermS t.lit.atom.B.kids (r1 + 1) (by omega) (by omega)) ?_ ?_ <;> simp -implicitDefEqProofs only [go_sem,Z1,Z2,Z3,Z4,hrs,hl9]
   rw [hr2]
   repeat (with_reducible apply And.intro; case left=>omega)
   refine atOwn [] [3] (c_laws_markTermS t.lit.atom.nums r2 (by omega) (by omega)) ?_ ?_ <;> simp -implicitDefEqProofs only [go_sem,Z1,Z2,Z3,Z4,hrs,hl9]
   rw [hr3]
   repeat (with_reducible apply And.intro; case left=>omega)
   refine atOwn [] [4] (c_laws_markIntS t.lit.atom.times r3 (by omega) (by omega)) ?_ ?_ <;> simp -implicitDefEqProofs only [go_sem,Z1,Z2,Z3,Z4,hrs,hl9]
   rw [hr4]
   repeat (with_reducible apply And.intro; case left=>omega)
   refine atOwn [] [5] ((hc (r4 + 1 + 1 + 1) (by omega) (by omega))) ?_ ?_ <;> simp -implicitDefEqProofs only [go_sem,Z1,Z2,Z3,Z4,hrs,hl9]
   repeat (with_reducible apply And.intro; case left=>omega)
   refine ⟨i + 1,zs',(mkForms t.kids (r4 + 1 + 1 + 1)).2,?_,?_,weak_put 0 i _ rfl (by rw [List.length_set]; exact h2'') (hrs _) ?_⟩
   rotate_left
   ·show _ < _
    omega
   ·simp -implicitDefEqProofs only [go_sem,Z1,Z2,Z3,Z4]
    refine weakS [some 0] ?_ ?_ rfl rfl
    ·simp -implicitDefEqProofs only [go_sem,Z1,Z2,Z3,Z4]
    ·simp -implicitDefEqProofs only [go_sem,Z1,Z2,Z3,Z4]
     all_goals (exact ⟨hset,(congrArg (fun z=>(frzRows z).isSome) hset).trans (fTs_ok _)⟩)
   exact hmk
  ·have hA:=hI.all (by omega)
   refine W_ofc hm ?_
   simp -implicitDefEqProofs only [go_sem,Z1,Z2,Z3,Z4,h2,hl9]
   refine finM' [some 0] ?_ rfl rfl
   simp -implicitDefEqProofs only [go_sem,Z1,Z2,Z3,Z4]
   rw [hA]
   exact ⟨rfl,rfl⟩
theorem c_laws_markFormS0:∀ (t:Mod.Form) (k:Int),0 ≤ k → k + ctForms t.kids ≤ 4398046511104 → C E.P 28 [.acc 0,iv k] [some (.tre 63 (fTs t.kids))] (Eq2 (iv (mkForms t.kids k).2) [some (.tre 63 (fTs (mkForms t.kids k).1))]):=
 Form.ind fun _ _ ks ih k h0 h1=>c_laws_markFormS1 ks ih k h0 h1
theorem c_laws_markFormS (ts:List Mod.Form) (k:Int) (h0:0 ≤ k) (h1:k + ctForms ts ≤ 4398046511104):C E.P 28 [.acc 0,iv k] [some (.tre 63 (fTs ts))] (Eq2 (iv (mkForms ts k).2) [some (.tre 63 (fTs (mkForms ts k).1))]):=
 c_laws_markFormS1 ts (fun t _=>c_laws_markFormS0 t) k h0 h1
end Go.Proofs.YtgeogofjlhjcmaaGreat
