/-
  The reference: the walks of what is drawn: forms, one in sixteen bent; lists of forms; what is so. A step towards the laws. The reference: the walks of lists of forms that are drawn, and of what is so. A step towards the laws.
-/
import Derived.Test.YtkkbmikoifnnbaaGreatKByb
import Derived.Test.YtkkbmikoifnnbaaGreatKBj
set_option linter.unusedVariables false
set_option linter.unusedSimpArgs false
namespace Go.Proofs.YtkkbmikoifnnbaaGreat
open Go.Eng Go.Mod
open Int renaming reduceEq → Z1,reduceLT → Z2,reduceLE → Z3,reduceToNat → Z4
set_option maxRecDepth 100000
set_option maxHeartbeats 400000
theorem nodess_len:∀ (ts:List Mod.Form),ts.length ≤ nodess ts
 | []=>by simp [nodess]
 | t :: ts=>by
   have h1:=nodess_len ts
   have h2:1 ≤ nodes t:=by cases t; simp [nodes]
   simp only [nodess,List.length_cons]
   omega
theorem nodes_kids (t:Mod.Form):t.kids.length ≤ nodes t:=by
 cases t with
 | mk k l ks=>
   have:=nodess_len ks
   simp only [Form.kids,nodes]
   omega
mutual
theorem withAtoms_nodes:∀ (t:Mod.Form) (l:List Atom),(withAtoms l t).length ≤ l.length + nodes t
 | .mk k x ks,l=>by
   have h:=withAtomss_nodes ks l
   rw [withAtoms_eq]
   split
   ·simp only [nodes]
    split <;> simp <;> omega
   ·simp only [nodes,Form.kids]
    omega
theorem withAtomss_nodes:∀ (ts:List Mod.Form) (l:List Atom),(withAtomss l ts).length ≤ l.length + nodess ts
 | [],l=>by simp [withAtomss]
 | t :: ts,l=>by
   have h1:=withAtoms_nodes t l
   have h2:=withAtomss_nodes ts (withAtoms l t)
   simp only [withAtomss,nodess]
   omega
end
theorem nodess_take:∀ (ts:List Mod.Form) (i:Nat),i < ts.length → nodess (ts.take i) + nodes (ts.getD i form0) ≤ nodess ts
 | [],i,h=>by simp at h
 | t :: ts,0,h=>by simp [nodess]
 | t :: ts,i + 1,h=>by
   have:=nodess_take ts i (by simpa using h)
   simp only [List.take_succ_cons,nodess,List.getD_cons_succ]
   omega
theorem c_spec_l9Atoms_N1 (t:Mod.Form) (ih:∀ k ∈ t.kids,∀ (l:List Atom),l.length + nodes k ≤ 900000 → C E.P 52 [.acc 0,av (cForm k)] [some (.acc 45 (rowsAtom l))] (Eq2 (.acc 1) [some .dead,some (.acc 45 (rowsAtom (withAtoms l k)))])) (l:List Atom) (hl1:l.length + nodes t ≤ 900000) :
 C E.P 52 [.acc 0,av (cForm t)] [some (.acc 45 (rowsAtom l))] (Eq2 (.acc 1) [some .dead,some (.acc 45 (rowsAtom (withAtoms l t)))]):=by
 have hn:1 + nodess t.kids = nodes t:=by cases t; rfl
 have hLB:=LB_eq
 refine C_goS (nt:=29) (rs:=[.tmp 4]) hm Tryz.func52 rfl rfl rfl rfl rfl (fun hl he=>?_)
 simp -implicitDefEqProofs only [go_sem,Z1,Z2,Z3,Z4] at hl ⊢
 rcases Classical.em (t.kind = 1) with hkind | hkind
 ·have kk:=eq_true hkind
  simp -implicitDefEqProofs only [go_sem,Z1,Z2,Z3,Z4,kk]
  refine atOwn [] [0,2] (c_spec_l9Add l t.lit.atom (by omega)) ?_ ?_ <;> simp -implicitDefEqProofs only [go_sem,Z1,Z2,Z3,Z4]
  refine finM' [some 0,some 2] ?_ rfl rfl
  simp -implicitDefEqProofs only [go_sem,Z1,Z2,Z3,Z4]
  rw [withAtoms_eq,if_pos hkind,addAtom]
 ·simp -implicitDefEqProofs only [go_sem,Z1,Z2,Z3,Z4,hkind]
  refine loop_go1 hm (fun (i:Nat)=> i ≤ t.kids.length) (fun (i:Nat)=> ⟨mkS 29 .any [(0,.acc 2),(3,.ptr 1 0),(5,iv i)],[some .dead,some (.box (pvs (cForm t))),some (.acc 45 (rowsAtom (withAtomss l (t.kids.take i))))]⟩) (fun (i:Nat)=> t.kids.length - i) (0) ?_ (weakS [some 0,some 1,some 0] ?_ ?_ rfl rfl) ?_
  rotate_left
  ·simp -implicitDefEqProofs only [go_sem,Z1,Z2,Z3,Z4]
  ·simp -implicitDefEqProofs only [go_sem,Z1,Z2,Z3,Z4]
   all_goals (simp only [withAtomss])
  rotate_left
  ·omega
  ·rintro i hi
   rcases Classical.em (i < t.kids.length) with h1 | h1
   ·have hroom:(withAtomss l (t.kids.take i)).length + nodes t.kids[i] ≤ 900000:=by
     have h2:=nodess_take t.kids i h1
     have h3:=withAtomss_nodes (t.kids.take i) l
     rw [List.getD_eq_getElem?_getD,List.getElem?_eq_getElem h1,Option.getD_some] at h2
     omega
    simp -implicitDefEqProofs only [go_sem,Z1,Z2,Z3,Z4,h1]
    have hc:=ih t.kids[i] (List.getElem_mem h1) (withAtomss l (t.kids.take i)) hroom
    refine atOwn [] [2,3] hc ?_ ?_ <;> simp -implicitDefEqProofs only [go_sem,Z1,Z2,Z3,Z4]
    repeat (with_reducible apply And.intro; case left=>omega)
    refine ⟨i + 1,?_,?_,weakS [some 0,some 1,some 3] ?_ ?_ rfl rfl⟩
    rotate_left
    ·show _ < _
     omega
    ·simp -implicitDefEqProofs only [go_sem,Z1,Z2,Z3,Z4]
    ·simp -implicitDefEqProofs only [go_sem,Z1,Z2,Z3,Z4]
     all_goals (simp only [withAtomss_snoc h1])
    exact h1
   ·have e:t.kids.take i = t.kids:=List.take_of_length_le (by omega)
    simp -implicitDefEqProofs only [go_sem,Z1,Z2,Z3,Z4,h1,e]
    refine finM' [some 0,some 2] ?_ rfl rfl
    simp -implicitDefEqProofs only [go_sem,Z1,Z2,Z3,Z4]
    rw [withAtoms_eq,if_neg hkind]
theorem c_spec_l9Atoms_N:∀ (t:Mod.Form) (l:List Atom),l.length + nodes t ≤ 900000 → C E.P 52 [.acc 0,av (cForm t)] [some (.acc 45 (rowsAtom l))] (Eq2 (.acc 1) [some .dead,some (.acc 45 (rowsAtom (withAtoms l t)))]):=
 Form.ind fun k x ks ih l h2=>c_spec_l9Atoms_N1 (.mk k x ks) ih l h2
theorem c_spec_l10Told_N (list:List Mod.Form) (hlen:nodess list ≤ 900000):C E.P 21 [lv (rowsForm list)] [] (Eq2 (lv (rowsAtom (withAtomss [] list))) []):=by
 have hLB:=LB_eq
 refine C_goS (nt:=19) (rs:=[.tmp 2]) hm Tryz.func21 rfl rfl rfl rfl rfl (fun hl he=>?_)
 simp -implicitDefEqProofs only [go_sem,Z1,Z2,Z3,Z4] at hl ⊢
 refine loop_go1 hm (fun (i:Nat)=> i ≤ list.length) (fun (i:Nat)=> ⟨mkS 19 .any [(0,lv (rowsForm list)),(3,.acc 0),(4,iv i)],[some (.acc 45 (rowsAtom (withAtomss [] (list.take i))))]⟩) (fun (i:Nat)=> list.length - i) (0) ?_ (weakS [some 0] ?_ ?_ rfl rfl) ?_
 rotate_left
 ·simp -implicitDefEqProofs only [go_sem,Z1,Z2,Z3,Z4]
 ·simp -implicitDefEqProofs only [go_sem,Z1,Z2,Z3,Z4]
  all_goals (simp [withAtomss,rowsAtom])
 rotate_left
 ·omega
 ·rintro i hi
  rcases Classical.em (i < list.length) with h1 | h1
  ·have hroom:(withAtomss [] (list.take i)).length + nodes list[i] ≤ 900000:=by
    have h2:=nodess_take list i h1
    have h3:=withAtomss_nodes (list.take i) []
    rw [List.getD_eq_getElem?_getD,List.getElem?_eq_getElem h1,Option.getD_some] at h2
    simp only [List.length_nil] at h3
    omega
   simp -implicitDefEqProofs only [go_sem,Z1,Z2,Z3,Z4,h1]
   refine atOwn [] [0,1] (c_spec_l9Atoms_N list[i] (withAtomss [] (list.take i)) hroom) ?_ ?_ <;> simp -implicitDefEqProofs only [go_sem,Z1,Z2,Z3,Z4,h1]
   repeat (with_reducible apply And.intro; case left=>omega)
   refine ⟨i + 1,?_,?_,weakS [some 1] ?_ ?_ rfl rfl⟩
   rotate_left
   ·show _ < _
    omega
   ·simp -implicitDefEqProofs only [go_sem,Z1,Z2,Z3,Z4]
   ·simp -implicitDefEqProofs only [go_sem,Z1,Z2,Z3,Z4]
    all_goals (simp only [withAtomss_snoc h1])
   exact h1
  ·have e:list.take i = list:=List.take_of_length_le (by omega)
   simp -implicitDefEqProofs only [go_sem,Z1,Z2,Z3,Z4,h1,e]
   refine fin1' ?_
   simp -implicitDefEqProofs only [go_sem,Z1,Z2,Z3,Z4]
def SigSmall (s:Sig):Prop:=s.syms.length ≤ 100 ∧ ∀ x ∈ s.syms,x.args.length ≤ 1000
theorem fair_small {s:Sig} (h:SigFair s):SigSmall s:=⟨by have:=h.1; omega,fun x hx=>by have:=(h.2 x hx).1; omega⟩
theorem fillS_args (b:List Int):∀ (n:Nat) (l:List Sym) (p:Int),(∀ x ∈ l,x.args.length ≤ 1000) → ∀ x ∈ (fillS b n l p).1,x.args.length ≤ 1000
 | 0,_,_,h=>h
 | n + 1,l,p,h=>fillS_args b n _ _ fun x hx=>by
   rcases List.mem_append.1 hx with hx | hx
   ·exact h x hx
   ·rw [List.mem_singleton.1 hx]; simp
theorem bentS_small {b:List Int} {s:Sig} (h:SigFair s) (p:Int):SigSmall (bentS b s p).1:=by
 have h0:=fair_small h
 obtain ⟨h1,h2⟩:=h
 have hx:∀ k,(s.syms.getD k ⟨[],[],0⟩).args.length ≤ 2:=by
  intro k
  rw [List.getD_eq_getElem?_getD]
  cases hk:s.syms[k]? with
  | none=>simp
  | some x=>exact (h2 x (List.mem_of_getElem? hk)).1
 have hset:∀ (k:Nat) (x:Sym),x.args.length ≤ 1000 → SigSmall ⟨s.syms.set k x⟩:=fun k x hx=>⟨by simp; omega,fun y hy=>by
  rcases List.mem_or_eq_of_mem_set hy with hy | rfl
  ·exact h0.2 y hy
  ·exact hx⟩
 unfold bentS
 simp only
 split
 ·exact h0
 ·split
  ·exact h0
  ·generalize hk:(pickV b (p + 1) s.syms.length).toNat = k
   have hxk:=hx k
   split
   ·exact hset _ _ (by simp only; omega)
   ·split
    ·exact hset _ _ (by simp only [List.length_append,List.length_singleton]; omega)
    ·split
     ·exact hset _ _ (by simp only; omega)
     ·split
      ·refine ⟨by simp; omega,fun y hy=>?_⟩
       rcases List.mem_append.1 hy with hy | hy
       ·exact h0.2 y hy
       ·rw [List.mem_singleton.1 hy]; omega
      ·refine ⟨by have:=(fillS_b b (8 - s.syms.length) s.syms (p + 3)).2; simp only; omega,fillS_args b _ _ _ h0.2⟩
theorem c_spec_l6Some (b:List Int) (hb:OkB b) (s:Sig) (hs:SigFair s) (p:Int) (h1:0 ≤ p) (h2:p ≤ 800000000) :
 C E.P 78 [.ptr 0 0,av (cSig s)] [some (rdE b p)] (Eq2 (av (cAtom (someA b s p).1)) [some (rdE b (someA b s p).2)]):=by
 have hO:=c_spec_l6Any_O b hb s hs p h1 (by omega)
 obtain ⟨z1,z2,z3⟩:=anyA_b hb hs h1
 obtain ⟨y,e0⟩:∃ y,someA b s p = y:=⟨_,rfl⟩
 have ee:=e0
 unfold someA at ee
 simp only at ee
 obtain ⟨r,hr⟩:∃ r,anyA b s p = r:=⟨_,rfl⟩
 rw [hr] at ee hO z1 z2 z3
 have hfew:=z3.few
 have qr:r.2 + 1 + 1 = r.2 + 2:=by omega
 have hlen:=z3.len
 rw [e0,← ee]
 have hLB:=LB_eq
 refine C_goS (nt:=52) (rs:=[.cell 4 45]) hm Tryz.func78 rfl rfl rfl rfl rfl (fun hl he=>?_)
 simp -implicitDefEqProofs only [go_sem,Z1,Z2,Z3,Z4] at hl ⊢
 refine atOwn [] [0,3,4] hO ?_ ?_ <;> simp -implicitDefEqProofs only [go_sem,Z1,Z2,Z3,Z4]
 refine atOwn [] [0] (c_pick b r.2 80 hb (by omega) (by omega)) ?_ ?_ <;> simp -implicitDefEqProofs only [go_sem,Z1,Z2,Z3,Z4]
 rcases Classical.em (pickV b r.2 80 = 0) with c0 | c0
 ·have k0:=eq_true c0
  rw [if_pos c0]
  simp -implicitDefEqProofs only [go_sem,Z1,Z2,Z3,Z4,k0]
  refine atOwn [] [0] (c_num b (r.2 + 1) [0,3,1,2] hb (by omega) (by omega) (by simp) (by simp)) ?_ ?_ <;> simp -implicitDefEqProofs only [go_sem,Z1,Z2,Z3,Z4,qr]
  refine finM' [some 0] ?_ rfl rfl
  simp -implicitDefEqProofs only [go_sem,Z1,Z2,Z3,Z4]
  repeat' apply And.intro
  all_goals rfl
 rw [if_neg c0]
 rcases Classical.em (pickV b r.2 80 = 1) with c1 | c1
 ·have k1:=eq_true c1
  rw [if_pos c1]
  simp -implicitDefEqProofs only [go_sem,Z1,Z2,Z3,Z4,c0,k1]
  refine atOwn [] [0] (c_num b (r.2 + 1) [1001,-9223372036854775808,5] hb (by omega) (by omega) (by simp) (by simp)) ?_ ?_ <;> simp -implicitDefEqProofs only [go_sem,Z1,Z2,Z3,Z4,qr]
  refine finM' [some 0] ?_ rfl rfl
  simp -implicitDefEqProofs only [go_sem,Z1,Z2,Z3,Z4]
  repeat' apply And.intro
  all_goals rfl
 rw [if_neg c1]
 rcases Classical.em (pickV b r.2 80 = 2) with c2 | c2
 ·have k2:=eq_true c2
  rw [if_pos c2]
  simp -implicitDefEqProofs only [go_sem,Z1,Z2,Z3,Z4,c0,c1,k2]
  refine atOwn [] [0] (c_spec_l4Some b hb s hs (r.2 + 1) (by omega) (by omega)) ?_ ?_ <;> simp -implicitDefEqProofs only [go_sem,Z1,Z2,Z3,Z4]
  refine finM' [some 0] ?_ rfl rfl
  simp -implicitDefEqProofs only [go_sem,Z1,Z2,Z3,Z4]
  repeat' apply And.intro
  all_goals rfl
 rw [if_neg c2]
 rcases Classical.em (pickV b r.2 80 = 3) with c3 | c3
 ·have k3:=eq_true c3
  rw [if_pos c3]
  rcases Classical.em ((0:Int) < (r.1.times.length:Int)) with h5 | h5
  ·have h5n:0 < r.1.times.length:=by omega
   rw [if_pos h5n]
   simp -implicitDefEqProofs only [go_sem,Z1,Z2,Z3,Z4,c0,c1,c2,k3,h5]
   refine atOwn [] [0] (c_num b (r.2 + 1) [0,51,-9223372036854775808] hb (by omega) (by omega) (by simp) (by simp)) ?_ ?_ <;> simp -implicitDefEqProofs only [go_sem,Z1,Z2,Z3,Z4,h5n,qr]
   with_reducible refine ind_andM (by kernel_rfl) ?_
   refine finM' [some 0] ?_ rfl rfl
   simp -implicitDefEqProofs only [go_sem,Z1,Z2,Z3,Z4]
   repeat' apply And.intro
   all_goals first | rfl | exact (rowsI_set h5n).symm
  ·have h5n:¬ 0 < r.1.times.length:=by omega
   rw [if_neg h5n]
   simp -implicitDefEqProofs only [go_sem,Z1,Z2,Z3,Z4,c0,c1,c2,k3,h5]
   refine finM' [some 0] ?_ rfl rfl
   simp -implicitDefEqProofs only [go_sem,Z1,Z2,Z3,Z4]
   repeat' apply And.intro
   all_goals rfl
 rw [if_neg c3]
 rcases Classical.em (pickV b r.2 80 = 4) with c4 | c4
 ·have k4:=eq_true c4
  rw [if_pos c4]
  simp -implicitDefEqProofs only [go_sem,Z1,Z2,Z3,Z4,c0,c1,c2,c3,k4]
  refine atOwn [] [0] (c_spec_l4Any b hb s hs 1 1 (r.2 + 1) (by omega) (by omega) (by omega)) ?_ ?_ <;> simp -implicitDefEqProofs only [go_sem,Z1,Z2,Z3,Z4]
  repeat (first | with_reducible refine ind_andM (by kernel_rfl) ?_ | (with_reducible apply And.intro; case left=>omega))
  refine finM' [some 0] ?_ rfl rfl
  simp -implicitDefEqProofs only [go_sem,Z1,Z2,Z3,Z4]
  repeat' apply And.intro
  all_goals first | rfl | exact (rowsT_put1 _ _).symm
 ·rw [if_neg c4]
  simp -implicitDefEqProofs only [go_sem,Z1,Z2,Z3,Z4,c0,c1,c2,c3,c4]
  refine finM' [some 0] ?_ rfl rfl
  simp -implicitDefEqProofs only [go_sem,Z1,Z2,Z3,Z4]
  repeat' apply And.intro
  all_goals rfl
theorem c_spec_l9Some (b:List Int) (hb:OkB b) (p:Int) (h1:0 ≤ p) (h2:p ≤ 600000000):C E.P 50 [.ptr 0 0] [some (rdE b p)] (Eq2 (.tup [av (cSig (someF b p).1),av (cForm (someF b p).2.1)]) [some (rdE b (someF b p).2.2)]):=by
 have cD:=c_spec_l9Draw b hb p h1 (by omega)
 obtain ⟨z1,z2,z3,z4⟩:=drawF_b hb h1
 obtain ⟨y,e0⟩:∃ y,someF b p = y:=⟨_,rfl⟩
 have ee:=e0
 unfold someF at ee
 simp only at ee
 obtain ⟨r,hr⟩:∃ r,drawF b p = r:=⟨_,rfl⟩
 rw [hr] at ee cD z1 z2 z3 z4
 obtain ⟨s,f,q⟩:=r
 simp only at ee cD z1 z2 z3 z4
 have hkl:=nodes_kids f
 have hkall:=rowsForm_all f.kids
 rw [e0,← ee]
 have hLB:=LB_eq
 refine C_goS (nt:=47) (rs:=[.cell 2 57,.cell 3 49]) hm Tryz.func50 rfl rfl rfl rfl rfl (fun hl he=>?_)
 simp -implicitDefEqProofs only [go_sem,Z1,Z2,Z3,Z4] at hl ⊢
 refine atOwn [] [0] cD ?_ ?_ <;> simp -implicitDefEqProofs only [go_sem,Z1,Z2,Z3,Z4]
 refine atOwn [] [0] (c_pick b q 64 hb (by omega) (by omega)) ?_ ?_ <;> simp -implicitDefEqProofs only [go_sem,Z1,Z2,Z3,Z4]
 rcases Classical.em (pickV b q 64 = 0) with c0 | c0
 ·have k0:=eq_true c0
  have qr:q + 1 + 1 = q + 2:=by omega
  rw [if_pos c0]
  simp -implicitDefEqProofs only [go_sem,Z1,Z2,Z3,Z4,k0]
  refine atOwn [] [0] (c_num b (q + 1) [0,7,1,2,3] hb (by omega) (by omega) (by simp) (by simp)) ?_ ?_ <;> simp -implicitDefEqProofs only [go_sem,Z1,Z2,Z3,Z4,qr]
  with_reducible refine ind_andM (by kernel_rfl) ?_
  refine finM' [some 0] ?_ rfl rfl
  simp -implicitDefEqProofs only [go_sem,Z1,Z2,Z3,Z4]
  repeat' apply And.intro
  all_goals rfl
 rw [if_neg c0]
 rcases Classical.em (pickV b q 64 = 1) with c1 | c1
 ·have k1:=eq_true c1
  rw [if_pos c1]
  simp -implicitDefEqProofs only [go_sem,Z1,Z2,Z3,Z4,c0,k1]
  repeat (first | with_reducible refine ind_andM (by kernel_rfl) ?_ | (with_reducible apply And.intro; case left=>first | omega | exact ⟨rowsForm_all _,by omega⟩))
  refine finM' [some 0] ?_ rfl rfl
  simp -implicitDefEqProofs only [go_sem,Z1,Z2,Z3,Z4]
  have e:rowsForm f.kids ++ [cForm f] = rowsForm (f.kids ++ [f]):=by rw [← rowsForm_app,rowsForm_cons,rowsForm_nil]
  repeat' apply And.intro
  all_goals first | rfl | exact e.symm
 rw [if_neg c1]
 rcases Classical.em (pickV b q 64 = 2) with c2 | c2
 ·have k2:=eq_true c2
  rw [if_pos c2]
  simp -implicitDefEqProofs only [go_sem,Z1,Z2,Z3,Z4,c0,c1,k2]
  refine atOwn [] [0] (c_spec_l6Some b hb s z4 (q + 1) (by omega) (by omega)) ?_ ?_ <;> simp -implicitDefEqProofs only [go_sem,Z1,Z2,Z3,Z4]
  with_reducible refine ind_andM (by kernel_rfl) ?_
  refine finM' [some 0] ?_ rfl rfl
  simp -implicitDefEqProofs only [go_sem,Z1,Z2,Z3,Z4]
  repeat' apply And.intro
  all_goals rfl
 rw [if_neg c2]
 rcases Classical.em (pickV b q 64 = 3) with c3 | c3
 ·have k3:=eq_true c3
  rw [if_pos c3]
  have g1:=bentS_b b s (q + 1)
  have g2:=bentS_small (b:=b) z4 (q + 1)
  simp -implicitDefEqProofs only [go_sem,Z1,Z2,Z3,Z4,c0,c1,c2,k3]
  refine atOwn [] [0] (c_spec_l4Bent b hb s (fair_small z4).1 (fair_small z4).2 (q + 1) (by omega) (by omega)) ?_ ?_ <;> simp -implicitDefEqProofs only [go_sem,Z1,Z2,Z3,Z4]
  refine atOwn [] [0] (c_spec_l4Bent b hb (bentS b s (q + 1)).1 g2.1 g2.2 (bentS b s (q + 1)).2 (by omega) (by omega)) ?_ ?_ <;> simp -implicitDefEqProofs only [go_sem,Z1,Z2,Z3,Z4]
  with_reducible refine ind_andM (by kernel_rfl) ?_
  refine finM' [some 0] ?_ rfl rfl
  simp -implicitDefEqProofs only [go_sem,Z1,Z2,Z3,Z4]
  repeat' apply And.intro
  all_goals rfl
 ·rw [if_neg c3]
  simp -implicitDefEqProofs only [go_sem,Z1,Z2,Z3,Z4,c0,c1,c2,c3]
  with_reducible refine ind_andM (by kernel_rfl) ?_
  refine finM' [some 0] ?_ rfl rfl
  simp -implicitDefEqProofs only [go_sem,Z1,Z2,Z3,Z4]
  repeat' apply And.intro
  all_goals rfl
theorem c_spec_l10Vals (b:List Int) (hb:OkB b) (n:Nat) (hn:n ≤ 1000000) (p:Int) (h1:0 ≤ p) (h2:p ≤ 900000000):C E.P 20 [.ptr 0 0,iv n] [some (rdE b p)] (Eq2 (lv (rowsB (valsS b n p).1)) [some (rdE b (valsS b n p).2)]):=by
 have key:∀ (m:Nat),(mapS (fun (_:Unit) q=>(decide (pickV b q 2 = 0),q + 1)) (List.replicate m ()) p).2 = p + m:=by
  intro m
  have hh:∀ (m:Nat) (q:Int),(mapS (fun (_:Unit) q=>(decide (pickV b q 2 = 0),q + 1)) (List.replicate m ()) q).2 = q + m:=by
   intro m
   induction m with
   | zero=>intro q; simp [mapS]
   | succ m ih=>intro q; simp only [List.replicate_succ,mapS,ih]; omega
  exact hh m p
 have hval:valsS b n p = (if pickV b (p + n) 30 = 0 then (mapS (fun (_:Unit) q=>(decide (pickV b q 2 = 0),q + 1)) (List.replicate n ()) p).1 ++ [true] else (mapS (fun (_:Unit) q=>(decide (pickV b q 2 = 0),q + 1)) (List.replicate n ()) p).1,p + n + 1):=by
  simp only [valsS,key n]
 rw [hval]
 have hlen:=mapS_len (fun (_:Unit) q=>(decide (pickV b q 2 = 0),q + 1)) (List.replicate n ()) p
 rw [List.length_replicate] at hlen
 have hLB:=LB_eq
 refine C_goS (nt:=26) (rs:=[.tmp 4]) hm Tryz.func20 rfl rfl rfl rfl rfl (fun hl he=>?_)
 simp -implicitDefEqProofs only [go_sem,Z1,Z2,Z3,Z4] at hl ⊢
 refine loop_go1 hm (fun (i:Nat)=> i ≤ n) (fun (i:Nat)=> ⟨mkS 26 .any [(0,.ptr 0 0),(1,iv n),(5,.acc 1),(6,iv i)],[some (rdE b (p + i)),some (.acc 4 (rowsB (mapS (fun (_:Unit) q=>(decide (pickV b q 2 = 0),q + 1)) ((List.replicate n ()).take i) p).1))]⟩) (fun (i:Nat)=> n - i) (0) ?_ (weakS [some 0,some 1] ?_ ?_ rfl rfl) ?_
 rotate_left
 ·simp -implicitDefEqProofs only [go_sem,Z1,Z2,Z3,Z4]
 ·simp -implicitDefEqProofs only [go_sem,Z1,Z2,Z3,Z4]
  all_goals (exact ⟨by simp,rfl⟩)
 rotate_left
 ·omega
 ·rintro i hi
  have hl2:=mapS_len (fun (_:Unit) q=>(decide (pickV b q 2 = 0),q + 1)) ((List.replicate n ()).take i) p
  rw [List.length_take,List.length_replicate] at hl2
  rcases Classical.em (i < n) with h3 | h3
  ·have hst:=mapS_take (fun (_:Unit) q=>(decide (pickV b q 2 = 0),q + 1)) (show i < (List.replicate n ()).length by rw [List.length_replicate]; exact h3) p
   have e:(List.replicate n ()).take i = List.replicate i ():=by rw [List.take_replicate]; congr 1; omega
   have hki:=key i
   rw [e,hki] at hst
   have hrow:rowsB (mapS (fun (_:Unit) q=>(decide (pickV b q 2 = 0),q + 1)) ((List.replicate n ()).take i) p).1 ++ [[D.val (Value.bool (decide (pickV b (p + i) 2 = 0)))]] = rowsB (mapS (fun (_:Unit) q=>(decide (pickV b q 2 = 0),q + 1)) ((List.replicate n ()).take (i + 1)) p).1:=by
    rw [hst,e]
    exact rowsB_app _ [_]
   have hp1:p + (i:Int) + 1 = p + ((i:Int) + 1):=by omega
   simp -implicitDefEqProofs only [go_sem,Z1,Z2,Z3,Z4,h3]
   refine atOwn [] [0] (c_pick b (p + i) 2 hb (by omega) (by omega)) ?_ ?_ <;> simp -implicitDefEqProofs only [go_sem,Z1,Z2,Z3,Z4,hp1]
   repeat (with_reducible apply And.intro; case left=>omega)
   refine ⟨i + 1,?_,?_,weakS [some 0,some 2] ?_ ?_ rfl rfl⟩
   rotate_left
   ·show _ < _
    omega
   ·simp -implicitDefEqProofs only [go_sem,Z1,Z2,Z3,Z4]
   ·simp -implicitDefEqProofs only [go_sem,Z1,Z2,Z3,Z4]
    all_goals (exact hrow)
   exact h3
  ·obtain rfl:i = n:=by omega
   have et:(List.replicate i ()).take i = List.replicate i ():=List.take_of_length_le (by rw [List.length_replicate]; exact Nat.le_refl _)
   rw [et]
   simp -implicitDefEqProofs only [go_sem,Z1,Z2,Z3,Z4,h3]
   refine atOwn [] [0] (c_pick b (p + i) 30 hb (by omega) (by omega)) ?_ ?_ <;> simp -implicitDefEqProofs only [go_sem,Z1,Z2,Z3,Z4]
   rcases Classical.em (pickV b (p + i) 30 = 0) with c0 | c0
   ·have k0:=eq_true c0
    simp only [if_pos c0]
    simp -implicitDefEqProofs only [go_sem,Z1,Z2,Z3,Z4,k0]
    repeat (with_reducible apply And.intro; case left=>omega)
    refine finM' [some 0] ?_ rfl rfl
    simp -implicitDefEqProofs only [go_sem,Z1,Z2,Z3,Z4]
    exact ⟨(rowsB_app _ [_]).symm,rfl⟩
   ·simp only [if_neg c0]
    simp -implicitDefEqProofs only [go_sem,Z1,Z2,Z3,Z4,c0]
    refine finM' [some 0] ?_ rfl rfl
    simp -implicitDefEqProofs only [go_sem,Z1,Z2,Z3,Z4]
    rfl
end Go.Proofs.YtkkbmikoifnnbaaGreat
namespace Go.Proofs.YtkkbmikoifnnbaaGreat
open Go.Eng Go.Mod
open Int renaming reduceEq → Z1,reduceLT → Z2,reduceLE → Z3,reduceToNat → Z4
set_option maxRecDepth 100000
set_option maxHeartbeats 400000
theorem rowsForm_put1 (us:List Mod.Form) (t:Mod.Form):rowsForm us ++ [cForm t] = rowsForm (us ++ [t]):=by rw [← rowsForm_app,rowsForm_cons,rowsForm_nil]
theorem c_spec_l10List (b:List Int) (hb:OkB b) (p:Int) (h1:0 ≤ p) (h2:p ≤ 400000000):C E.P 19 [.ptr 0 0] [some (rdE b p)] (Eq2 (.tup [av (cSig (listF b p).1),lv (rowsForm (listF b p).2.1)]) [some (rdE b (listF b p).2.2)]):=by
 have hs:SigFair (sigS b p).1:=baseS_fair _
 have hsp:(sigS b p).2 = p + 1:=rfl
 have hT:=toldS_b hb hs (p:=p + 1) (by omega)
 have cT:=c_spec_l9Told b hb (sigS b p).1 hs (p + 1) (by omega) (by omega)
 obtain ⟨y,e0⟩:∃ y,listF b p = y:=⟨_,rfl⟩
 have ee:=e0
 unfold listF at ee
 simp only at ee
 obtain ⟨a,hta⟩:∃ a,toldS b (sigS b p).1 (p + 1) = a:=⟨_,rfl⟩
 rw [hta] at ee hT cT
 have hmem:=numV_mem hb (p:=a.2) (l:=[2,3,1,4,0]) (by omega) (by simp)
 simp only [List.mem_cons,List.not_mem_nil,or_false] at hmem
 obtain ⟨N,eN⟩:∃ N:Nat,numV b a.2 [2,3,1,4,0] = N:=⟨(numV b a.2 [2,3,1,4,0]).toNat,by omega⟩
 have hN:N ≤ 4:=by omega
 simp only [eN,Int.toNat_natCast] at ee
 have hF:=forms_b hb (told:=a.1) N [] (a.2 + 1) (by omega)
 obtain ⟨r,hr⟩:∃ r,iterS (formStep b a.1) N [] (a.2 + 1) = r:=⟨_,rfl⟩
 obtain ⟨s,hsig⟩:∃ s,(sigS b p).1 = s:=⟨_,rfl⟩
 have c1:=c_spec_l4Sig b p hb h1 (by omega)
 rw [hr] at ee hF
 rw [hsig] at ee hs cT c1
 simp only [List.length_nil] at hF
 obtain ⟨f1,f2,f3,f4⟩:=hF
 rw [e0,← ee]
 have hLB:=LB_eq
 refine C_goS (nt:=65) (rs:=[.cell 2 57,.tmp 3]) hm Tryz.func19 rfl rfl rfl rfl rfl (fun hl he=>?_)
 simp -implicitDefEqProofs only [go_sem,Z1,Z2,Z3,Z4] at hl ⊢
 refine atOwn [] [0] c1 ?_ ?_ <;> simp -implicitDefEqProofs only [go_sem,Z1,Z2,Z3,Z4,hsp]
 refine atOwn [] [0] cT ?_ ?_ <;> simp -implicitDefEqProofs only [go_sem,Z1,Z2,Z3,Z4]
 refine atOwn [] [0] (c_num b a.2 [2,3,1,4,0] hb (by omega) (by omega) (by simp) (by simp)) ?_ ?_ <;> simp -implicitDefEqProofs only [go_sem,Z1,Z2,Z3,Z4,eN]
 refine loop_go3 hm (fun (j:Nat) (q:Int) (out:List Mod.Form)=> j ≤ N ∧ 0 ≤ q ∧ q ≤ a.2 + 1 + (N - j) * 70 ∧ out.length = N - j ∧ r = iterS (formStep b a.1) j out q) (fun (j:Nat) (q:Int) (out:List Mod.Form)=> ⟨mkS 65 .any [(0,.ptr 0 0),(2,.ptr 1 0),(4,.ptr 2 0),(5,lv (rowsAtom a.1)),(6,.acc 3),(7,iv j)],[some (rdE b q),some (.box [.nilS]),some (.box (pvs (cSig s))),some (.acc 49 (rowsForm out))]⟩) (fun (j:Nat) (q:Int) (out:List Mod.Form)=> j) (N) (a.2 + 1) ([]) ?_ (weakS [some 0,some 1,some 2,some 3] ?_ ?_ rfl rfl) ?_
 rotate_left
 ·simp -implicitDefEqProofs only [go_sem,Z1,Z2,Z3,Z4]
 ·simp -implicitDefEqProofs only [go_sem,Z1,Z2,Z3,Z4]
 rotate_left
 ·exact ⟨Nat.le_refl _,by omega,by omega,by simp,hr.symm⟩
 ·rintro j q out ⟨hj,hq1,hq2,hol,hg⟩
  rcases Classical.em ((0:Int) < (j:Int)) with h3 | h3
  ·obtain ⟨j,rfl⟩:∃ j',j = j' + 1:=⟨j - 1,by omega⟩
   obtain ⟨d,ed,d1,d2,d3⟩:=deep3 hb (p:=q) hq1 (l:=[2,3,1]) (by simp) (by decide)
   have g1:=formStep_b hb (told:=a.1) (out:=out) (p:=q) hq1
   rw [iterS] at hg
   have est:formStep b a.1 out q = (out ++ [(anyF b a.1 d (q + 1)).1],(anyF b a.1 d (q + 1)).2):=by
    simp only [formStep,ed,Int.toNat_natCast]
   rw [est] at hg g1
   simp only at hg g1
   have cA:=c_spec_l9Any b hb a.1 (by omega) (by omega) d (q + 1) d1 (by omega) (by omega)
   obtain ⟨x,hx⟩:∃ x,anyF b a.1 d (q + 1) = x:=⟨_,rfl⟩
   rw [hx] at hg g1 cA
   have hjs:((j:Int) + 1 - 1) = (j:Int):=by omega
   have h3:(0:Int) < (j:Int) + 1:=by omega
   have hla:(out ++ [x.1]).length = out.length + 1:=by simp
   simp -implicitDefEqProofs only [go_sem,Z1,Z2,Z3,Z4,h3]
   refine atOwn [] [0] (c_num b q [2,3,1] hb (by omega) (by omega) (by simp) (by simp)) ?_ ?_ <;> simp -implicitDefEqProofs only [go_sem,Z1,Z2,Z3,Z4,ed]
   refine atOwn [] [0] cA ?_ ?_ <;> simp -implicitDefEqProofs only [go_sem,Z1,Z2,Z3,Z4]
   repeat (with_reducible apply And.intro; case left=>omega)
   simp -implicitDefEqProofs only [go_sem,Z1,Z2,Z3,Z4,hjs]
   refine ⟨j,x.2,out ++ [x.1],?_,?_,weakS [some 0,some 1,some 2,some 4] ?_ ?_ rfl rfl⟩
   rotate_left
   ·show _ < _
    omega
   ·simp -implicitDefEqProofs only [go_sem,Z1,Z2,Z3,Z4]
   ·simp -implicitDefEqProofs only [go_sem,Z1,Z2,Z3,Z4]
    all_goals (exact rowsForm_put1 _ _)
   exact ⟨by omega,by omega,by omega,by omega,hg⟩
  ·obtain rfl:j = 0:=by omega
   rw [iterS] at hg
   subst hg
   simp only at f1 f2 f3 f4 ⊢
   simp -implicitDefEqProofs only [go_sem,Z1,Z2,Z3,Z4,h3]
   refine atOwn [] [0] (c_pick b q 48 hb (by omega) (by omega)) ?_ ?_ <;> simp -implicitDefEqProofs only [go_sem,Z1,Z2,Z3,Z4]
   rcases Classical.em (pickV b q 48 = 0) with c0 | c0
   ·have k0:=eq_true c0
    simp only [if_pos c0]
    simp -implicitDefEqProofs only [go_sem,Z1,Z2,Z3,Z4,k0]
    refine atOwn [] [0] (c_spec_l9Some b hb (q + 1) (by omega) (by omega)) ?_ ?_ <;> simp -implicitDefEqProofs only [go_sem,Z1,Z2,Z3,Z4]
    repeat (with_reducible apply And.intro; case left=>omega)
    refine finM' [some 0] ?_ rfl rfl
    simp -implicitDefEqProofs only [go_sem,Z1,Z2,Z3,Z4]
    repeat' apply And.intro
    all_goals first | rfl | exact (rowsForm_put1 _ _).symm
   simp only [if_neg c0]
   rcases Classical.em (pickV b q 48 = 1) with c1 | c1
   ·have k1:=eq_true c1
    simp only [if_pos c1]
    simp -implicitDefEqProofs only [go_sem,Z1,Z2,Z3,Z4,c0,k1]
    refine loop_go2 hm (fun (l:List Mod.Form) (z:Int)=> q + 1 ≤ z ∧ z ≤ q + 1 + 4 * l.length ∧ l.length ≤ 6 ∧ fillF b a.1 (6 - out.length) out (q + 1) = fillF b a.1 (6 - l.length) l z) (fun (l:List Mod.Form) (z:Int)=> ⟨mkS 65 .any [(0,.ptr 0 0),(2,.ptr 1 0),(4,.ptr 2 0),(5,lv (rowsAtom a.1)),(6,.acc 3)],[some (rdE b z),some (.box [.nilS]),some (.box (pvs (cSig s))),some (.acc 49 (rowsForm l))]⟩) (fun (l:List Mod.Form) (z:Int)=> 6 - l.length) (out) (q + 1) ?_ (weakS [some 0,some 1,some 2,some 3] ?_ ?_ rfl rfl) ?_
    rotate_left
    ·simp -implicitDefEqProofs only [go_sem,Z1,Z2,Z3,Z4]
    ·simp -implicitDefEqProofs only [go_sem,Z1,Z2,Z3,Z4]
    rotate_left
    ·exact ⟨by omega,by omega,by omega,rfl⟩
    ·rintro l z ⟨b1,b2,b3,hg⟩
     rcases Classical.em (l.length ≤ 5) with h6 | h6
     ·have h6':(l.length:Int) ≤ 5:=by omega
      have e8:6 - l.length = (6 - (l.length + 1)) + 1:=by omega
      rw [e8,fillF] at hg
      have cA:=c_spec_l9Any b hb a.1 (by omega) (by omega) 1 z (by omega) (by omega) (by omega)
      have gA:=anyF_b hb (atoms:=a.1) 1 z (by omega)
      have hla:(l ++ [(anyF b a.1 1 z).1]).length = l.length + 1:=by simp
      have e2:(4:Int) * (2 ^ 1 - 1) = 4:=by decide
      rw [e2] at gA
      simp -implicitDefEqProofs only [go_sem,Z1,Z2,Z3,Z4,h6']
      refine atOwn [] [0] cA ?_ ?_ <;> simp -implicitDefEqProofs only [go_sem,Z1,Z2,Z3,Z4]
      repeat (with_reducible apply And.intro; case left=>omega)
      refine ⟨l ++ [(anyF b a.1 1 z).1],(anyF b a.1 1 z).2,?_,?_,weakS [some 0,some 1,some 2,some 4] ?_ ?_ rfl rfl⟩
      rotate_left
      ·show _ < _
       omega
      ·simp -implicitDefEqProofs only [go_sem,Z1,Z2,Z3,Z4]
      ·simp -implicitDefEqProofs only [go_sem,Z1,Z2,Z3,Z4]
       all_goals (exact rowsForm_put1 _ _)
      exact ⟨by omega,by omega,by omega,by rw [hla]; exact hg⟩
     ·have h6':¬ (l.length:Int) ≤ 5:=by omega
      have e8:6 - l.length = 0:=by omega
      rw [e8,fillF] at hg
      rw [hg]
      simp -implicitDefEqProofs only [go_sem,Z1,Z2,Z3,Z4,h6']
      refine finM' [some 0] ?_ rfl rfl
      simp -implicitDefEqProofs only [go_sem,Z1,Z2,Z3,Z4]
      repeat' apply And.intro
      all_goals rfl
   simp only [if_neg c1]
   rcases Classical.em (pickV b q 48 = 2) with c2 | c2
   ·have k2:=eq_true c2
    simp only [if_pos c2]
    have g1:=bentS_b b s (q + 1)
    have g2:=bentS_small (b:=b) hs (q + 1)
    simp -implicitDefEqProofs only [go_sem,Z1,Z2,Z3,Z4,c0,c1,k2]
    refine atOwn [] [0] (c_spec_l4Bent b hb s (fair_small hs).1 (fair_small hs).2 (q + 1) (by omega) (by omega)) ?_ ?_ <;> simp -implicitDefEqProofs only [go_sem,Z1,Z2,Z3,Z4]
    refine atOwn [] [0] (c_spec_l4Bent b hb (bentS b s (q + 1)).1 g2.1 g2.2 (bentS b s (q + 1)).2 (by omega) (by omega)) ?_ ?_ <;> simp -implicitDefEqProofs only [go_sem,Z1,Z2,Z3,Z4]
    refine finM' [some 0] ?_ rfl rfl
    simp -implicitDefEqProofs only [go_sem,Z1,Z2,Z3,Z4]
    repeat' apply And.intro
    all_goals rfl
   ·simp only [if_neg c2]
    simp -implicitDefEqProofs only [go_sem,Z1,Z2,Z3,Z4,c0,c1,c2]
    refine finM' [some 0] ?_ rfl rfl
    simp -implicitDefEqProofs only [go_sem,Z1,Z2,Z3,Z4]
    repeat' apply And.intro
    all_goals rfl
theorem c_spec_DrawCnfVals (b:List Int) (hb:∀ x ∈ b,0 ≤ x ∧ x ≤ 255) (hl9:b.length ≤ 2000000):C E.P 5 [lv (byD b)] [] (Eq2 (.tup [lv (rowsForm (drawCnfVals (b.take 2000)).1),lv (rowsB (drawCnfVals (b.take 2000)).2)]) []):=by
 have hO:=openOk hb
 obtain ⟨c,hc⟩:∃ c,b.take 2000 = c:=⟨_,rfl⟩
 have c1:=c_spec_l16Open b hb hl9
 rw [hc] at hO c1 ⊢
 have hL:=listF_b hO (p:=0) (by omega)
 have c2:=c_spec_l10List c hO 0 (by omega) (by omega)
 have e:drawCnfVals c = ((listF c 0).2.1,(valsS c (withAtomss [] (listF c 0).2.1).length (listF c 0).2.2).1):=rfl
 rw [e]
 generalize listF c 0 = r at hL c2 ⊢
 obtain ⟨s,l,q⟩:=r
 simp only at hL c2 ⊢
 have hw:=withAtomss_nodes l []
 simp only [List.length_nil] at hw
 have hLB:=LB_eq
 refine C_goS (nt:=20) (rs:=[.tmp 2,.tmp 3]) hm Tryz.func5 rfl rfl rfl rfl rfl (fun hl he=>?_)
 simp -implicitDefEqProofs only [go_sem,Z1,Z2,Z3,Z4] at hl ⊢
 refine atOwn [] [0] c1 ?_ ?_ <;> simp -implicitDefEqProofs only [go_sem,Z1,Z2,Z3,Z4]
 refine atOwn [] [0] c2 ?_ ?_ <;> simp -implicitDefEqProofs only [go_sem,Z1,Z2,Z3,Z4]
 refine atCall [] (c_spec_l10Told_N l (by omega)) ?_ ?_ <;> simp -implicitDefEqProofs only [go_sem,Z1,Z2,Z3,Z4]
 refine atOwn [] [0] (c_spec_l10Vals c hO (withAtomss [] l).length (by omega) q (by omega) (by omega)) ?_ ?_ <;> simp -implicitDefEqProofs only [go_sem,Z1,Z2,Z3,Z4]
 refine fin1' ?_
 simp -implicitDefEqProofs only [go_sem,Z1,Z2,Z3,Z4]
end Go.Proofs.YtkkbmikoifnnbaaGreat
