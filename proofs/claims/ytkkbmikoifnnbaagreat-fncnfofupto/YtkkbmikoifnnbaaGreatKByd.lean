/-
  The reference: the walk of CnfVals. A step towards the laws. The program: the walks of clause form, compared, valued, judged. A step towards the laws.
-/
import Derived.Test.YtkkbmikoifnnbaaGreatKByc
import Derived.Test.YtkkbmikoifnnbaaGreatKBf
import Derived.Test.YtkkbmikoifnnbaaGreatKBEc
import Derived.Test.YtkkbmikoifnnbaaGreatKBEa
import Derived.Test.YtkkbmikoifnnbaaGreatKBm
import Derived.Test.YtkkbmikoifnnbaaGreatKBd
import Derived.Test.YtkkbmikoifnnbaaGreatKBDa
set_option linter.unusedVariables false
set_option linter.unusedSimpArgs false
namespace Go.Proofs.YtkkbmikoifnnbaaGreat
open Go.Eng Go.Mod
open Int renaming reduceEq → Z1,reduceLT → Z2,reduceLE → Z3,reduceToNat → Z4
set_option maxRecDepth 100000
set_option maxHeartbeats 400000
theorem rowsB_put1 (us:List Bool) (b:Bool):rowsB us ++ [[D.val (Value.bool b)]] = rowsB (us ++ [b]):=by rw [← rowsB_app]; rfl
theorem nodesFs_take {ts:List Mod.Form} {i:Nat} (h:i < ts.length):nodesFs (ts.take (i + 1)) = nodesFs (ts.take i) ++ nodesF ts[i]:=by
 have e:ts.take (i + 1) = ts.take i ++ [ts[i]]:=by rw [List.take_add_one,List.getElem?_eq_getElem h]; rfl
 rw [nodesFs_flat,nodesFs_flat,e,List.flatMap_append]
 simp only [List.flatMap_cons,List.flatMap_nil,List.append_nil]
theorem kids_lit {t:Mod.Form} {d:Nat} (hsh:formShape t (d + 1) = true) (h1:t.kind = 1):t.kids = []:=by
 rcases formHead_not1 (formShape_kids hsh).1 with h | h | h
 ·exact List.eq_nil_of_length_eq_zero h.2
 ·omega
 ·omega
theorem nodes_room {t:Mod.Form} {d:Nat} (hsh:formShape t (d + 1) = true) (i:Nat) (hi:i < t.kids.length):(nodesFs (t.kids.take i)).length + 2 ^ d ≤ 2 ^ (d + 1):=by
 have hk:=formShape_kids hsh
 have hp:(2:Nat) ^ (d + 1) = 2 * 2 ^ d:=by rw [Nat.pow_succ]; omega
 have hp1:1 ≤ (2:Nat) ^ d:=Nat.one_le_two_pow
 have h1:=nodesFs_len (t.kids.take i) d (formShapes_take hk.2.2 i)
 have h2:=formManys_le (t.kids.take i) d (formShapes_take hk.2.2 i)
 have h3:(t.kids.take i).length ≤ 1:=by rw [List.length_take]; omega
 have h4:(t.kids.take i).length * (2 ^ d - 1) ≤ 1 * (2 ^ d - 1):=Nat.mul_le_mul_right _ h3
 omega
theorem c_spec_l10More1 (atoms:List Atom) (vals:List Bool) (hv1:vals.length = atoms.length) (t:Mod.Form) (ih:∀ k ∈ t.kids,∀ (d:Nat) (out:List Bool),formShape k d = true → inside atoms k → out.length + 2 ^ d ≤ 900000 →
 C E.P 36 [.acc 0,lv (rowsAtom atoms),lv (rowsB vals),av (cForm k)] [some (.acc 4 (rowsB out))] (Eq2 (.acc 1) [some .dead,some (.acc 4 (rowsB (out ++ (nodesF k).map (holds (wOf atoms vals)))))]))
 (d:Nat) (out:List Bool) (hsh:formShape t d = true) (hin:inside atoms t) (hl1:out.length + 2 ^ d ≤ 900000) :
 C E.P 36 [.acc 0,lv (rowsAtom atoms),lv (rowsB vals),av (cForm t)] [some (.acc 4 (rowsB out))] (Eq2 (.acc 1) [some .dead,some (.acc 4 (rowsB (out ++ (nodesF t).map (holds (wOf atoms vals)))))]):=by
 have cIs:=c_spec_l9Is atoms vals hv1 t d hsh hin
 cases d with
 | zero=>cases t; simp [formShape] at hsh
 | succ d=>
 have hk:=formShape_kids hsh
 have hp1:1 ≤ (2:Nat) ^ d:=Nat.one_le_two_pow
 have hp2:(2:Nat) ^ (d + 1) = 2 * 2 ^ d:=by rw [Nat.pow_succ]; omega
 have hnl:=nodesFs_len t.kids d hk.2.2
 have hnl2:=formManys_le t.kids d hk.2.2
 have hnl3:t.kids.length * (2 ^ d - 1) ≤ 2 * (2 ^ d - 1):=Nat.mul_le_mul_right _ (by have:=hk.2.1; omega)
 have hLB:=LB_eq
 refine C_goS (nt:=42) (rs:=[.tmp 8]) hm Tryz.func36 rfl rfl rfl rfl rfl (fun hl he=>?_)
 simp -implicitDefEqProofs only [go_sem,Z1,Z2,Z3,Z4] at hl ⊢
 refine loop_go1 hm (fun (i:Nat)=> i ≤ t.kids.length) (fun (i:Nat)=> ⟨mkS 42 .any [(0,.acc 2),(1,lv (rowsAtom atoms)),(2,lv (rowsB vals)),(7,.ptr 1 0),(9,iv i)],[some .dead,some (.box (pvs (cForm t))),some (.acc 4 (rowsB (out ++ (nodesFs (t.kids.take i)).map (holds (wOf atoms vals)))))]⟩) (fun (i:Nat)=> t.kids.length - i) (0) ?_ (weakS [some 0,some 1,some 0] ?_ ?_ rfl rfl) ?_
 rotate_left
 ·simp -implicitDefEqProofs only [go_sem,Z1,Z2,Z3,Z4]
 ·simp -implicitDefEqProofs only [go_sem,Z1,Z2,Z3,Z4]
  all_goals (simp [nodesFs])
 rotate_left
 ·omega
 ·rintro i hi
  rcases Classical.em (i < t.kids.length) with h1 | h1
  ·have hne:t.kind ≠ 1:=fun h=>by have:=kids_lit hsh h; rw [this] at h1; simp at h1
   have hroom:=nodes_room hsh i h1
   have hc:=ih t.kids[i] (List.getElem_mem h1) d (out ++ (nodesFs (t.kids.take i)).map (holds (wOf atoms vals))) (formShapes_mem hk.2.2 _ (List.getElem_mem h1)) (inside_kids hin hne _ (List.getElem_mem h1)) (by rw [List.length_append,List.length_map]; omega)
   rw [List.append_assoc,← List.map_append,← nodesFs_take h1] at hc
   simp -implicitDefEqProofs only [go_sem,Z1,Z2,Z3,Z4,h1]
   refine atOwn [] [2,3] hc ?_ ?_ <;> simp -implicitDefEqProofs only [go_sem,Z1,Z2,Z3,Z4,h1]
   repeat (with_reducible apply And.intro; case left=>omega)
   refine ⟨i + 1,?_,?_,weakS [some 0,some 1,some 3] ?_ ?_ rfl rfl⟩
   rotate_left
   ·show _ < _
    omega
   ·simp -implicitDefEqProofs only [go_sem,Z1,Z2,Z3,Z4]
   ·simp -implicitDefEqProofs only [go_sem,Z1,Z2,Z3,Z4]
   exact h1
  ·have e:t.kids.take i = t.kids:=List.take_of_length_le (by omega)
   rw [e]
   rcases Classical.em (t.kind = 1) with k1 | k1
   ·have kk:=eq_true k1
    have hkn:=kids_lit hsh k1
    simp -implicitDefEqProofs only [go_sem,Z1,Z2,Z3,Z4,h1,kk]
    refine finM' [some 0,some 2] ?_ rfl rfl
    simp -implicitDefEqProofs only [go_sem,Z1,Z2,Z3,Z4]
    rw [nodesF_lit k1,hkn]
    rfl
   rcases Classical.em (t.kind = 2) with k2 | k2
   ·have kk:=eq_true k2
    simp -implicitDefEqProofs only [go_sem,Z1,Z2,Z3,Z4,h1,k1,kk]
    refine finM' [some 0,some 2] ?_ rfl rfl
    simp -implicitDefEqProofs only [go_sem,Z1,Z2,Z3,Z4]
    rw [nodesF_eq,if_neg k1,if_pos k2]
   ·have hl2:(out ++ (nodesFs t.kids).map (holds (wOf atoms vals))).length ≤ 900000:=by rw [List.length_append,List.length_map]; omega
    generalize hz:out ++ (nodesFs t.kids).map (holds (wOf atoms vals)) = z at hl2 ⊢
    simp -implicitDefEqProofs only [go_sem,Z1,Z2,Z3,Z4,h1,k1,k2]
    refine atCall [] cIs ?_ ?_ <;> simp -implicitDefEqProofs only [go_sem,Z1,Z2,Z3,Z4]
    repeat (with_reducible apply And.intro; case left=>omega)
    refine finM' [some 0,some 3] ?_ rfl rfl
    simp -implicitDefEqProofs only [go_sem,Z1,Z2,Z3,Z4]
    rw [nodesF_eq,if_neg k1,if_neg k2,List.map_append,← List.append_assoc,hz]
    exact rowsB_put1 _ _
theorem c_spec_l10More (atoms:List Atom) (vals:List Bool) (hv1:vals.length = atoms.length):∀ (t:Mod.Form) (d:Nat) (out:List Bool),formShape t d = true → inside atoms t → out.length + 2 ^ d ≤ 900000 →
 C E.P 36 [.acc 0,lv (rowsAtom atoms),lv (rowsB vals),av (cForm t)] [some (.acc 4 (rowsB out))] (Eq2 (.acc 1) [some .dead,some (.acc 4 (rowsB (out ++ (nodesF t).map (holds (wOf atoms vals)))))]):=
 Form.ind fun k x ks ih d out h1 h2 h3=>c_spec_l10More1 atoms vals hv1 (.mk k x ks) ih d out h1 h2 h3
theorem c_spec_CnfVals (list:List Mod.Form) (vals:List Bool) (hlen:nodess list ≤ 900000) (hv9:vals.length ≤ 1000):C E.P 13 [lv (rowsForm list),lv (rowsB vals)] [] (Eq2 (lv (rowsB (cnfVals list vals))) []):=by
 have hLB:=LB_eq
 refine C_goS (nt:=39) (rs:=[.tmp 4]) hm Tryz.func13 rfl rfl rfl rfl rfl (fun hl he=>?_)
 simp -implicitDefEqProofs only [go_sem,Z1,Z2,Z3,Z4] at hl ⊢
 refine atCall [] (c_spec_l10Told_N list hlen) ?_ ?_ <;> simp -implicitDefEqProofs only [go_sem,Z1,Z2,Z3,Z4]
 refine atCall [] (c_spec_l10Forms list) ?_ ?_ <;> simp -implicitDefEqProofs only [go_sem,Z1,Z2,Z3,Z4]
 cases h:formsAtoms list with
 | none=>
   rw [cnfVals_none h]
   simp -implicitDefEqProofs only [go_sem,Z1,Z2,Z3,Z4,Option.isSome_none]
   refine fin1' ?_
   simp -implicitDefEqProofs only [go_sem,Z1,Z2,Z3,Z4]
 | some atoms=>
   obtain ⟨p1,p2,p3,p4⟩:=formsAtoms_parts h
   rw [← p4]
   rcases Classical.em (vals.length = atoms.length) with hv | hv
   ·have kv:((vals.length:Int) = (atoms.length:Int)) = True:=eq_true (by omega)
    rw [cnfVals_some h hv,← nodesFs_flat]
    have hall:=rowsB_all vals
    simp -implicitDefEqProofs only [go_sem,Z1,Z2,Z3,Z4,Option.isSome_some,kv,hv]
    repeat (with_reducible apply And.intro; case left=>exact ⟨rowsB_all _,by omega⟩)
    refine loop_go1 hm (fun (i:Nat)=> i ≤ list.length) (fun (i:Nat)=> ⟨mkS 39 .any [(0,lv (rowsForm list)),(1,lv (rowsB vals)),(5,lv (rowsAtom atoms)),(6,.acc 0),(7,iv i)],[some (.acc 4 (rowsB (vals ++ (nodesFs (list.take i)).map (holds (wOf atoms vals)))))]⟩) (fun (i:Nat)=> list.length - i) (0) ?_ (weakS [some 1] ?_ ?_ rfl rfl) ?_
    rotate_left
    ·simp -implicitDefEqProofs only [go_sem,Z1,Z2,Z3,Z4]
    ·simp -implicitDefEqProofs only [go_sem,Z1,Z2,Z3,Z4]
     all_goals (simp [nodesFs])
    rotate_left
    ·omega
    ·rintro i hi
     rcases Classical.em (i < list.length) with h1 | h1
     ·have hs:=isForm_shape (p2 list[i] (List.getElem_mem h1))
      have hin:=(formsAtoms_mem h list[i] (List.getElem_mem h1)).2
      have hsum:(nodesFs (list.take i)).length ≤ i * 31:=by
       have key:∀ (l:List Mod.Form),(∀ f ∈ l,isForm f = true) → (nodesFs l).length ≤ l.length * 31:=by
        intro l
        induction l with
        | nil=>intro _; simp [nodesFs]
        | cons f fs ih=>
          intro hf
          have s1:=isForm_shape (hf f (by simp))
          have s2:=nodesF_len f 5 s1.1
          have s3:=formMany_le f 5 s1.1
          have s4:=ih fun x hx=>hf x (by simp [hx])
          simp only [nodesFs,List.length_append,List.length_cons]
          omega
       have:=key (list.take i) fun f hf=>p2 f (List.mem_of_mem_take hf)
       rw [List.length_take] at this
       omega
      have hc:=c_spec_l10More atoms vals hv list[i] 5 (vals ++ (nodesFs (list.take i)).map (holds (wOf atoms vals))) hs.1 hin (by rw [List.length_append,List.length_map]; omega)
      rw [List.append_assoc,← List.map_append,← nodesFs_take h1] at hc
      simp -implicitDefEqProofs only [go_sem,Z1,Z2,Z3,Z4,h1]
      refine atOwn [] [0,1] hc ?_ ?_ <;> simp -implicitDefEqProofs only [go_sem,Z1,Z2,Z3,Z4,h1]
      repeat (with_reducible apply And.intro; case left=>omega)
      refine ⟨i + 1,?_,?_,weakS [some 1] ?_ ?_ rfl rfl⟩
      rotate_left
      ·show _ < _
       omega
      ·simp -implicitDefEqProofs only [go_sem,Z1,Z2,Z3,Z4]
      ·simp -implicitDefEqProofs only [go_sem,Z1,Z2,Z3,Z4]
      exact h1
     ·have e:list.take i = list:=List.take_of_length_le (by omega)
      simp -implicitDefEqProofs only [go_sem,Z1,Z2,Z3,Z4,h1,e]
      refine fin1' ?_
      simp -implicitDefEqProofs only [go_sem,Z1,Z2,Z3,Z4]
   ·have kv:¬ ((vals.length:Int) = (atoms.length:Int)):=by omega
    rw [cnfVals_off h hv]
    simp -implicitDefEqProofs only [go_sem,Z1,Z2,Z3,Z4,Option.isSome_some,kv,hv]
    refine fin1' ?_
    simp -implicitDefEqProofs only [go_sem,Z1,Z2,Z3,Z4]
end Go.Proofs.YtkkbmikoifnnbaaGreat
namespace Go.Proofs.YtkkbmikoifnnbaaGreat
open Go.Eng Go.Mod
open Int renaming reduceEq → Z1,reduceLT → Z2,reduceLE → Z3,reduceToNat → Z4
set_option maxRecDepth 100000
set_option maxHeartbeats 400000
theorem c_EqualFunc_Ints (f:Nat) (xs ys:List (List Int)) (hf:∀ x ∈ xs,∀ y,C E.P f [lv (rowsI x),lv (rowsI y)] [] (Eq2 (bv (decide (x = y))) [])) :
 C E.P 24 [lv (rowsII xs),lv (rowsII ys),.fn f []] [] (Eq2 (bv (decide (xs = ys))) []):=by
 have hLB:=LB_eq
 refine C_goS (nt:=32) (rs:=[.tmp 6]) hm Tryz.func24 rfl rfl rfl rfl rfl (fun hl he=>?_)
 simp -implicitDefEqProofs only [go_sem,Z1,Z2,Z3,Z4] at hl ⊢
 rcases Classical.em (xs.length = ys.length) with hl' | hl'
 ·simp -implicitDefEqProofs only [go_sem,Z1,Z2,Z3,Z4,hl']
  refine loop_go1 hm (fun (i:Nat)=> i ≤ ys.length ∧ decide (xs = ys) = decide (xs.drop i = ys.drop i)) (fun (i:Nat)=> ⟨mkS 32 .any [(1,lv (rowsII ys)),(2,.fn f []),(15,lv (rowsII xs)),(16,iv ys.length),(17,iv i)],[]⟩) (fun (i:Nat)=> ys.length - i) (0) ?_ (weakS [] ?_ ?_ rfl rfl) ?_
  rotate_left
  ·simp -implicitDefEqProofs only [go_sem,Z1,Z2,Z3,Z4]
  ·simp -implicitDefEqProofs only [go_sem,Z1,Z2,Z3,Z4]
  rotate_left
  ·simp
  ·rintro i ⟨hi,hg⟩
   rcases Classical.em (i < ys.length) with h1 | h1
   ·have h2:i < xs.length:=by omega
    rw [List.drop_eq_getElem_cons h1,List.drop_eq_getElem_cons h2] at hg
    simp -implicitDefEqProofs only [go_sem,Z1,Z2,Z3,Z4,h1,h2]
    have hc:=hf xs[i] (List.getElem_mem h2) ys[i]
    refine atCall [] hc ?_ ?_ <;> simp -implicitDefEqProofs only [go_sem,Z1,Z2,Z3,Z4]
    rcases Classical.em (xs[i] = ys[i]) with h3 | h3
    ·simp -implicitDefEqProofs only [go_sem,Z1,Z2,Z3,Z4,h3]
     refine ⟨by omega,?_⟩
     refine ⟨i + 1,?_,?_,weakS [] ?_ ?_ rfl rfl⟩
     rotate_left
     ·show _ < _
      omega
     ·simp -implicitDefEqProofs only [go_sem,Z1,Z2,Z3,Z4]
     ·simp -implicitDefEqProofs only [go_sem,Z1,Z2,Z3,Z4]
     exact ⟨by omega,by rw [hg]; simp only [h3,List.cons.injEq,true_and]⟩
    ·have hg:decide (xs = ys) = false:=by rw [hg]; simp only [h3,List.cons.injEq,false_and,decide_false]
     simp -implicitDefEqProofs only [go_sem,Z1,Z2,Z3,Z4,h3]
     refine fin1' ?_
     simp -implicitDefEqProofs only [go_sem,Z1,Z2,Z3,Z4]
     all_goals (simp [hg]; done)
   ·have hg:decide (xs = ys) = true:=by
     rw [hg,List.drop_of_length_le (by omega),List.drop_of_length_le (by omega)]
     rfl
    simp -implicitDefEqProofs only [go_sem,Z1,Z2,Z3,Z4,h1]
    refine fin1' ?_
    simp -implicitDefEqProofs only [go_sem,Z1,Z2,Z3,Z4]
    all_goals (simp [hg]; done)
 ·have hn:¬ xs = ys:=fun h=>hl' (by rw [h])
  simp -implicitDefEqProofs only [go_sem,Z1,Z2,Z3,Z4,hl']
  refine fin1' ?_
  simp -implicitDefEqProofs only [go_sem,Z1,Z2,Z3,Z4]
  all_goals (simp [hn]; done)
theorem c_impl_translated_no (list:List Mod.Form) (h:formsAtoms list = none):C E.P 22 [lv (rowsForm list)] [] (Eq2 (.tup [.d (.val (.pointer none)),bv false]) []):=by
 have hLB:=LB_eq
 refine C_goS (nt:=36) (rs:=[.tmp 2,.tmp 3]) hm Tryz.func22 rfl rfl rfl rfl rfl (fun hl he=>?_)
 simp -implicitDefEqProofs only [go_sem,Z1,Z2,Z3,Z4] at hl ⊢
 have hc:=c_impl_formsAtoms list
 rw [h] at hc
 simp only [Option.getD_none,Option.isSome_none] at hc
 refine atCall [] hc ?_ ?_ <;> simp -implicitDefEqProofs only [go_sem,Z1,Z2,Z3,Z4]
 refine fin1' ?_
 simp -implicitDefEqProofs only [go_sem,Z1,Z2,Z3,Z4]
theorem c_impl_CnfOf (list:List Mod.Form):C E.P 6 [lv (rowsForm list)] [] (Eq2 (av (cCnf (cnfOf list))) []):=by
 have hLB:=LB_eq
 refine C_goS (nt:=17) (rs:=[.cell 2 29]) hm Tryz.func6 rfl rfl rfl rfl rfl (fun hl he=>?_)
 simp -implicitDefEqProofs only [go_sem,Z1,Z2,Z3,Z4] at hl ⊢
 cases h:formsAtoms list with
 | none=>
   rw [cnfOf_none h]
   refine atCall [] (c_impl_translated_no list h) ?_ ?_ <;> simp -implicitDefEqProofs only [go_sem,Z1,Z2,Z3,Z4]
   refine fin1' ?_
   simp -implicitDefEqProofs only [go_sem,Z1,Z2,Z3,Z4]
   repeat' apply And.intro
   all_goals rfl
 | some atoms=>
   refine atOwn [] [1,2,3] (c_impl_translated list atoms h) ?_ ?_ <;> simp -implicitDefEqProofs only [go_sem,Z1,Z2,Z3,Z4]
   refine fin1' ?_
   simp -implicitDefEqProofs only [go_sem,Z1,Z2,Z3,Z4]
theorem c_impl_FormsAtoms (list:List Mod.Form):C E.P 7 [lv (rowsForm list)] [] (Eq2 (lv (rowsAtom ((formsAtoms list).getD []))) []):=by
 have hLB:=LB_eq
 refine C_goS (nt:=11) (rs:=[.tmp 2]) hm Tryz.func7 rfl rfl rfl rfl rfl (fun hl he=>?_)
 simp -implicitDefEqProofs only [go_sem,Z1,Z2,Z3,Z4] at hl ⊢
 refine atCall [] (c_impl_formsAtoms list) ?_ ?_ <;> simp -implicitDefEqProofs only [go_sem,Z1,Z2,Z3,Z4]
 refine fin1' ?_
 simp -implicitDefEqProofs only [go_sem,Z1,Z2,Z3,Z4]
theorem c_impl_FormAtoms (t:Mod.Form):C E.P 15 [av (cForm t)] [] (Eq2 (lv (rowsAtom (if isForm t then withAtoms [] t else []))) []):=by
 have hLB:=LB_eq
 refine C_goS (nt:=8) (rs:=[.tmp 2]) hm Tryz.func15 rfl rfl rfl rfl rfl (fun hl he=>?_)
 simp -implicitDefEqProofs only [go_sem,Z1,Z2,Z3,Z4] at hl ⊢
 refine atCall [] (c_impl_isForm t) ?_ ?_ <;> simp -implicitDefEqProofs only [go_sem,Z1,Z2,Z3,Z4]
 cases h:isForm t
 ·simp -implicitDefEqProofs only [go_sem,Z1,Z2,Z3,Z4]
  refine fin1' ?_
  simp -implicitDefEqProofs only [go_sem,Z1,Z2,Z3,Z4]
  rfl
 ·simp -implicitDefEqProofs only [go_sem,Z1,Z2,Z3,Z4]
  refine atCall [] (c_impl_withAtoms_nil t (isForm_shape h).1) ?_ ?_ <;> simp -implicitDefEqProofs only [go_sem,Z1,Z2,Z3,Z4]
  refine fin1' ?_
  simp -implicitDefEqProofs only [go_sem,Z1,Z2,Z3,Z4]
theorem c_impl_CnfSame (a c:Mod.Cnf):C E.P 8 [av (cCnf a),av (cCnf c)] [] (Eq2 (bv (decide (a = c))) []):=by
 have hLB:=LB_eq
 refine C_goS (nt:=17) (rs:=[.tmp 4]) hm Tryz.func8 rfl rfl rfl rfl rfl (fun hl he=>?_)
 simp -implicitDefEqProofs only [go_sem,Z1,Z2,Z3,Z4] at hl ⊢
 rcases Classical.em (a.many = c.many) with h | h
 ·have k:=eq_true h
  simp -implicitDefEqProofs only [go_sem,Z1,Z2,Z3,Z4,k]
  refine atCall [] (c_EqualFunc_Ints 25 a.list c.list (fun x _ y=>c_Equal_int x y)) ?_ ?_ <;> simp -implicitDefEqProofs only [go_sem,Z1,Z2,Z3,Z4]
  refine fin1' ?_
  simp -implicitDefEqProofs only [go_sem,Z1,Z2,Z3,Z4]
  cases a; cases c
  simp only at h
  simp [h]
 ·simp -implicitDefEqProofs only [go_sem,Z1,Z2,Z3,Z4,h]
  refine fin1' ?_
  simp -implicitDefEqProofs only [go_sem,Z1,Z2,Z3,Z4]
  cases a; cases c
  simp only at h
  simp [h]
theorem c_laws_wpBools (a c:List Bool):C E.P 12 [lv (rowsB a),lv (rowsB c)] [] (Eq2 (bv (decide (a = c))) []):=by
 have hLB:=LB_eq
 refine C_goS (nt:=26) (rs:=[.tmp 4]) hm Tryz.func12 rfl rfl rfl rfl rfl (fun hl he=>?_)
 simp -implicitDefEqProofs only [go_sem,Z1,Z2,Z3,Z4] at hl ⊢
 rcases Classical.em (a.length = c.length) with h | h
 ·have k:=eq_true h
  simp -implicitDefEqProofs only [go_sem,Z1,Z2,Z3,Z4,k]
  refine loop_go1 hm (fun (i:Nat)=> i ≤ a.length ∧ a.take i = c.take i) (fun (i:Nat)=> ⟨mkS 26 .any [(0,lv (rowsB a)),(1,lv (rowsB c)),(5,iv i)],[]⟩) (fun (i:Nat)=> a.length - i) (0) ?_ (weakS [] ?_ ?_ rfl rfl) ?_
  rotate_left
  ·simp -implicitDefEqProofs only [go_sem,Z1,Z2,Z3,Z4]
  ·simp -implicitDefEqProofs only [go_sem,Z1,Z2,Z3,Z4]
  rotate_left
  ·simp
  ·rintro i ⟨hi,he⟩
   rcases Classical.em (i < a.length) with h1 | h1
   ·have h2:i < c.length:=by omega
    cases h3:a[i] == c[i]
    ·have hne:a[i] ≠ c[i]:=by simpa using h3
     have hac:a ≠ c:=by rintro rfl; exact hne rfl
     have kne:(a[i] == c[i]) = false:=h3
     cases ha:a[i] <;> cases hc:c[i]
     ·rw [ha,hc] at hne; exact (hne rfl).elim
     ·simp -implicitDefEqProofs only [go_sem,Z1,Z2,Z3,Z4,h1,h2,ha,hc]
      with_reducible refine ind_andM (by kernel_rfl) ?_
      refine fin1' ?_
      simp -implicitDefEqProofs only [go_sem,Z1,Z2,Z3,Z4]
      rw [decide_eq_false hac]
     ·simp -implicitDefEqProofs only [go_sem,Z1,Z2,Z3,Z4,h1,h2,ha,hc]
      with_reducible refine ind_andM (by kernel_rfl) ?_
      refine fin1' ?_
      simp -implicitDefEqProofs only [go_sem,Z1,Z2,Z3,Z4]
      rw [decide_eq_false hac]
     ·rw [ha,hc] at hne; exact (hne rfl).elim
    ·have heq:a[i] = c[i]:=by simpa using h3
     have hst:a.take (i + 1) = c.take (i + 1):=by
      rw [List.take_add_one,List.take_add_one,he,List.getElem?_eq_getElem h1,List.getElem?_eq_getElem h2,heq]
     cases hc:c[i]
     ·have ha:a[i] = false:=heq.trans hc
      simp -implicitDefEqProofs only [go_sem,Z1,Z2,Z3,Z4,h1,h2,ha,hc]
      with_reducible refine ind_andM (by kernel_rfl) ?_
      repeat (with_reducible apply And.intro; case left=>omega)
      refine ⟨i + 1,?_,?_,weakS [] ?_ ?_ rfl rfl⟩
      rotate_left
      ·show _ < _
       omega
      ·simp -implicitDefEqProofs only [go_sem,Z1,Z2,Z3,Z4]
      ·simp -implicitDefEqProofs only [go_sem,Z1,Z2,Z3,Z4]
      exact ⟨h1,hst⟩
     ·have ha:a[i] = true:=heq.trans hc
      simp -implicitDefEqProofs only [go_sem,Z1,Z2,Z3,Z4,h1,h2,ha,hc]
      with_reducible refine ind_andM (by kernel_rfl) ?_
      repeat (with_reducible apply And.intro; case left=>omega)
      refine ⟨i + 1,?_,?_,weakS [] ?_ ?_ rfl rfl⟩
      rotate_left
      ·show _ < _
       omega
      ·simp -implicitDefEqProofs only [go_sem,Z1,Z2,Z3,Z4]
      ·simp -implicitDefEqProofs only [go_sem,Z1,Z2,Z3,Z4]
      exact ⟨h1,hst⟩
   ·have hac:a = c:=by
     rw [List.take_of_length_le (by omega),List.take_of_length_le (by omega)] at he
     exact he
    simp -implicitDefEqProofs only [go_sem,Z1,Z2,Z3,Z4,h1]
    refine fin1' ?_
    simp -implicitDefEqProofs only [go_sem,Z1,Z2,Z3,Z4]
    rw [decide_eq_true hac]
 ·have hac:a ≠ c:=by rintro rfl; exact h rfl
  simp -implicitDefEqProofs only [go_sem,Z1,Z2,Z3,Z4,h]
  refine fin1' ?_
  simp -implicitDefEqProofs only [go_sem,Z1,Z2,Z3,Z4]
  rw [decide_eq_false hac]
theorem c_impl_isTrue (l:Int) (vals:List Bool) (hb9:-60 ≤ l ∧ l ≤ 60) (hv9:vals.length ≤ 1000000):C E.P 65 [iv l,lv (rowsB vals)] [] (Eq2 (bv (isTrueL l vals)) []):=by
 have hLB:=LB_eq
 refine C_goS (nt:=26) (rs:=[.tmp 4]) hm Tryz.func65 rfl rfl rfl rfl rfl (fun hl he=>?_)
 simp -implicitDefEqProofs only [go_sem,Z1,Z2,Z3,Z4] at hl ⊢
 rcases Classical.em (l = 0) with h0 | h0
 ·have k0:=eq_true h0
  simp -implicitDefEqProofs only [go_sem,Z1,Z2,Z3,Z4,k0]
  refine fin1' ?_
  simp -implicitDefEqProofs only [go_sem,Z1,Z2,Z3,Z4]
  simp [isTrueL,h0]
 ·simp -implicitDefEqProofs only [go_sem,Z1,Z2,Z3,Z4,h0]
  repeat (with_reducible apply And.intro; case left=>omega)
  refine atCall [] (c_impl_within l (-vals.length) vals.length) ?_ ?_ <;> simp -implicitDefEqProofs only [go_sem,Z1,Z2,Z3,Z4]
  cases h1:within l (-vals.length) vals.length
  ·simp -implicitDefEqProofs only [go_sem,Z1,Z2,Z3,Z4]
   refine fin1' ?_
   simp -implicitDefEqProofs only [go_sem,Z1,Z2,Z3,Z4]
   simp [isTrueL,h1]
  ·have hb:=withinB_iff.1 h1
   have hi:l.natAbs - 1 < vals.length:=by omega
   have hz:((l.natAbs:Int) - 1) = ((l.natAbs - 1:Nat):Int):=by omega
   have e:isTrueL l vals = (vals[l.natAbs - 1] == decide (0 < l)):=by
    simp only [isTrueL,h1,h0,ne_eq,not_false_eq_true,decide_true,Bool.true_and,List.getD_eq_getElem?_getD,List.getElem?_eq_getElem hi,Option.getD_some]
   rw [e]
   simp -implicitDefEqProofs only [go_sem,Z1,Z2,Z3,Z4]
   refine atCall [] (c_impl_variable l hb9) ?_ ?_ <;> simp -implicitDefEqProofs only [go_sem,Z1,Z2,Z3,Z4]
   rcases Classical.em (0 < l) with h2 | h2
   ·cases h3:vals[l.natAbs - 1]
    ·simp -implicitDefEqProofs only [go_sem,Z1,Z2,Z3,Z4,hz,hi,h3,h2]
     repeat (with_reducible apply And.intro; case left=>omega)
     refine fin1' ?_
     simp -implicitDefEqProofs only [go_sem,Z1,Z2,Z3,Z4]
    ·simp -implicitDefEqProofs only [go_sem,Z1,Z2,Z3,Z4,hz,hi,h3,h2]
     repeat (with_reducible apply And.intro; case left=>omega)
     refine fin1' ?_
     simp -implicitDefEqProofs only [go_sem,Z1,Z2,Z3,Z4]
   ·cases h3:vals[l.natAbs - 1]
    ·simp -implicitDefEqProofs only [go_sem,Z1,Z2,Z3,Z4,hz,hi,h3,h2]
     repeat (with_reducible apply And.intro; case left=>omega)
     refine fin1' ?_
     simp -implicitDefEqProofs only [go_sem,Z1,Z2,Z3,Z4]
    ·simp -implicitDefEqProofs only [go_sem,Z1,Z2,Z3,Z4,hz,hi,h3,h2]
     repeat (with_reducible apply And.intro; case left=>omega)
     refine fin1' ?_
     simp -implicitDefEqProofs only [go_sem,Z1,Z2,Z3,Z4]
theorem c_impl_ClauseIs_1 (vals:List Bool) (hv9:vals.length ≤ 1000000) (l:Int) (hb9:-60 ≤ l ∧ l ≤ 60):C E.P 64 [iv l,.iptr [[.lst (rowsB vals)]] 0 0] [] (Eq2 (bv (isTrueL l vals)) []):=by
 have hLB:=LB_eq
 refine C_goS (nt:=7) (rs:=[.tmp 3]) hm Tryz.func64 rfl rfl rfl rfl rfl (fun hl he=>?_)
 simp -implicitDefEqProofs only [go_sem,Z1,Z2,Z3,Z4] at hl ⊢
 refine atCall [] (c_impl_isTrue l vals hb9 hv9) ?_ ?_ <;> simp -implicitDefEqProofs only [go_sem,Z1,Z2,Z3,Z4]
 refine fin1' ?_
 simp -implicitDefEqProofs only [go_sem,Z1,Z2,Z3,Z4]
theorem c_impl_ClauseIs (c:List Int) (vals:List Bool) (hc9:∀ l ∈ c,-60 ≤ l ∧ l ≤ 60) (hv9:vals.length ≤ 1000000):C E.P 35 [lv (rowsI c),lv (rowsB vals)] [] (Eq2 (bv (clauseIs c vals)) []):=by
 have hLB:=LB_eq
 refine C_goS (nt:=8) (rs:=[.tmp 4]) hm Tryz.func35 rfl rfl rfl rfl rfl (fun hl he=>?_)
 simp -implicitDefEqProofs only [go_sem,Z1,Z2,Z3,Z4] at hl ⊢
 refine atLook [] [0] (c_ContainsFunc_int 64 [.iptr [[.lst (rowsB vals)]] 0 0] rfl (fun l=>isTrueL l vals) c (fun l hl=>c_impl_ClauseIs_1 vals hv9 l (hc9 l hl))) rfl ?_ ?_ ?_
 ·(simp -implicitDefEqProofs only [go_sem,Z1,Z2,Z3,Z4]; repeat' (first | exact Vws.nil | apply Vws.cons | exact Vw.same (by first | rfl | simp -implicitDefEqProofs only [go_sem,Z1,Z2,Z3,Z4]) | exact Vw.acc rfl rfl | exact Vw.tre rfl rfl (by simp -implicitDefEqProofs only [go_sem,Z1,Z2,Z3,Z4]) | exact Vw.nil | apply Vw.agg | apply Vw.fn | refine Vw.box rfl rfl ?_))
 all_goals simp -implicitDefEqProofs only [go_sem,Z1,Z2,Z3,Z4]
 refine fin1' ?_
 simp -implicitDefEqProofs only [go_sem,Z1,Z2,Z3,Z4]
 all_goals (simp [clauseIs]; done)
theorem c_impl_CnfIs_1 (vals:List Bool) (hv9:vals.length ≤ 1000000) (c:List Int) (hc9:∀ l ∈ c,-60 ≤ l ∧ l ≤ 60):C E.P 34 [lv (rowsI c),.iptr [[.lst (rowsB vals)]] 0 0] [] (Eq2 (bv (!clauseIs c vals)) []):=by
 have hLB:=LB_eq
 refine C_goS (nt:=8) (rs:=[.tmp 3]) hm Tryz.func34 rfl rfl rfl rfl rfl (fun hl he=>?_)
 simp -implicitDefEqProofs only [go_sem,Z1,Z2,Z3,Z4] at hl ⊢
 refine atCall [] (c_impl_ClauseIs c vals hc9 hv9) ?_ ?_ <;> simp -implicitDefEqProofs only [go_sem,Z1,Z2,Z3,Z4]
 refine fin1' ?_
 simp -implicitDefEqProofs only [go_sem,Z1,Z2,Z3,Z4]
theorem c_impl_CnfIs (c:Mod.Cnf) (vals:List Bool) (hv9:vals.length ≤ 1000000):C E.P 11 [av (cCnf c),lv (rowsB vals)] [] (Eq2 (bv (cnfIs c vals)) []):=by
 have hLB:=LB_eq
 refine C_goS (nt:=21) (rs:=[.tmp 4]) hm Tryz.func11 rfl rfl rfl rfl rfl (fun hl he=>?_)
 simp -implicitDefEqProofs only [go_sem,Z1,Z2,Z3,Z4] at hl ⊢
 refine atCall [] (c_impl_CnfOk c) ?_ ?_ <;> simp -implicitDefEqProofs only [go_sem,Z1,Z2,Z3,Z4]
 cases h1:cnfOk c
 ·simp -implicitDefEqProofs only [go_sem,Z1,Z2,Z3,Z4]
  refine fin1' ?_
  simp -implicitDefEqProofs only [go_sem,Z1,Z2,Z3,Z4]
  all_goals (simp [cnfIs,h1]; done)
 ·have hcm:=cnfOk_mem h1
  have hall:∀ x ∈ c.list,∀ l ∈ x,-60 ≤ l ∧ l ≤ 60:=fun x hx l hl=>by
   have:=(hcm.2.2 x hx l hl)
   omega
  rcases Classical.em ((vals.length:Int) = c.many) with h2 | h2
  ·have k2:=eq_true h2
   have e:cnfIs c vals = !(c.list.any fun x=>!clauseIs x vals):=by simp [cnfIs,h1,h2,List.all_eq_not_any_not]
   simp -implicitDefEqProofs only [go_sem,Z1,Z2,Z3,Z4,k2]
   refine atLook [] [1] (c_ContainsFunc_Ints 34 [.iptr [[.lst (rowsB vals)]] 0 0] rfl (fun x=>!clauseIs x vals) c.list (fun x hx=>c_impl_CnfIs_1 vals hv9 x (hall x hx))) rfl ?_ ?_ ?_
   ·(simp -implicitDefEqProofs only [go_sem,Z1,Z2,Z3,Z4]; repeat' (first | exact Vws.nil | apply Vws.cons | exact Vw.same (by first | rfl | simp -implicitDefEqProofs only [go_sem,Z1,Z2,Z3,Z4]) | exact Vw.acc rfl rfl | exact Vw.tre rfl rfl (by simp -implicitDefEqProofs only [go_sem,Z1,Z2,Z3,Z4]) | exact Vw.nil | apply Vw.agg | apply Vw.fn | refine Vw.box rfl rfl ?_))
   all_goals simp -implicitDefEqProofs only [go_sem,Z1,Z2,Z3,Z4]
   refine fin1' ?_
   simp -implicitDefEqProofs only [go_sem,Z1,Z2,Z3,Z4]
   all_goals (simp [e]; done)
  ·simp -implicitDefEqProofs only [go_sem,Z1,Z2,Z3,Z4,h2]
   refine fin1' ?_
   simp -implicitDefEqProofs only [go_sem,Z1,Z2,Z3,Z4]
   all_goals (simp [cnfIs,h1,h2]; done)
theorem c_Clone_bool_nilA:C E.P 29 [.nilS] [] (Eq2 (.acc 0) [some (.acc 4 (rowsB []))]):=by
 have hLB:=LB_eq
 refine C_goS (nt:=8) (rs:=[.tmp 2]) hm Tryz.func29 rfl rfl rfl rfl rfl (fun hl he=>?_)
 simp -implicitDefEqProofs only [go_sem,Z1,Z2,Z3,Z4] at hl ⊢
 refine atNil 4 _ true rfl rfl (by simp -implicitDefEqProofs only [go_sem,Z1,Z2,Z3,Z4]) eqnil_nil ?_
 simp -implicitDefEqProofs only [go_sem,Z1,Z2,Z3,Z4]
 refine finM' [none] ?_ rfl rfl
 simp -implicitDefEqProofs only [go_sem,Z1,Z2,Z3,Z4]
theorem c_Clone_bool_valA (a:Addr) (c:Nat):C E.P 29 [.d (.val (.slice (some a) 0 c))] [] (Eq2 (.acc 0) [some (.acc 4 (rowsB []))]):=by
 have hLB:=LB_eq
 refine C_goS (nt:=8) (rs:=[.tmp 2]) hm Tryz.func29 rfl rfl rfl rfl rfl (fun hl he=>?_)
 simp -implicitDefEqProofs only [go_sem,Z1,Z2,Z3,Z4] at hl ⊢
 refine atNil 4 _ false rfl rfl (p:=.d (.val (.slice (some a) 0 c))) (by simp -implicitDefEqProofs only [go_sem,Z1,Z2,Z3,Z4]) (eqnil_val _ _ _) ?_
 simp -implicitDefEqProofs only [go_sem,Z1,Z2,Z3,Z4]
 repeat (with_reducible apply And.intro; case left=>(simp [*]; done))
 refine finM' [some 1] ?_ rfl rfl
 simp -implicitDefEqProofs only [go_sem,Z1,Z2,Z3,Z4]
theorem c_Clone_bool_consA (r:List D) (rs:List (List D)) (hl1:rs.length ≤ 1000) (h1:∀ y ∈ r :: rs,y.length = 1):C E.P 29 [.d (.lst (r :: rs))] [] (Eq2 (.acc 0) [some (.acc 4 (r :: rs))]):=by
 have hLB:=LB_eq
 refine C_goS (nt:=8) (rs:=[.tmp 2]) hm Tryz.func29 rfl rfl rfl rfl rfl (fun hl he=>?_)
 simp -implicitDefEqProofs only [go_sem,Z1,Z2,Z3,Z4] at hl ⊢
 refine atNil 4 _ false rfl rfl (p:=.d (.lst (r :: rs))) (by simp -implicitDefEqProofs only [go_sem,Z1,Z2,Z3,Z4]) eqnil_lst ?_
 simp -implicitDefEqProofs only [go_sem,Z1,Z2,Z3,Z4]
 refine And.intro ⟨?_,by omega,by omega⟩ ?_
 ·simpa using h1
 refine finM' [some 1] ?_ rfl rfl
 simp -implicitDefEqProofs only [go_sem,Z1,Z2,Z3,Z4]
theorem c_Clone_bool_A (ns:List Bool) (hl1:ns.length ≤ 1000):C E.P 29 [lv (rowsB ns)] [] (Eq2 (.acc 0) [some (.acc 4 (rowsB ns))]):=by
 cases ns with
 | nil=>exact C_split c_Clone_bool_nilA c_Clone_bool_valA
 | cons x xs=>
   have h1:=rowsB_all (x :: xs)
   rw [rowsB_cons] at h1 ⊢
   exact c_Clone_bool_consA _ (rowsB xs) (by rw [rowsB_len]; simp at hl1; omega) h1
def trE (vals:List Bool) (atoms:List Atom) (m:Int) (cl:List (List Int)) (fs:List Mod.Form):List (Option En):=[some (.box [lv (rowsB vals)]),some (.box [.ptr 2 0]),some (.box [iv m,.acc 3,lv (rowsAtom atoms),.acc 4]),some (.acc 43 (rowsII cl)),some (.acc 49 (rowsForm fs))]
attribute [go_sem] trE
theorem c_impl_CnfVals_1 (vals:List Bool) (atoms:List Atom) (hv:vals.length = atoms.length) (m:Int) (cl:List (List Int)) (fs:List Mod.Form) (a:Atom) (ha:a ∈ atoms):C E.P 31 [av (cAtom a),.ptr 0 0,.ptr 1 0] (trE vals atoms m cl fs) (Eq2 (bv (wOf atoms vals a)) (trE vals atoms m cl fs)):=by
 have hnn:=atomIdx_nn.2 ha
 have hlt:=atomIdx_lt ha
 have hi:(atomIdx atoms a).toNat < vals.length:=by omega
 have e:wOf atoms vals a = vals[(atomIdx atoms a).toNat]:=by simp [wOf,List.getD,hi]
 rw [e]
 have hLB:=LB_eq
 refine C_goS (nt:=14) (rs:=[.tmp 4]) hm Tryz.func31 rfl rfl rfl rfl rfl (fun hl he=>?_)
 simp -implicitDefEqProofs only [go_sem,Z1,Z2,Z3,Z4] at hl ⊢
 refine atCall [] (c_impl_atomIndex atoms a) ?_ ?_ <;> simp -implicitDefEqProofs only [go_sem,Z1,Z2,Z3,Z4,hnn,hi]
 with_reducible refine ind_andM (by kernel_rfl) ?_
 refine finM' [some 0,some 1,some 2,some 3,some 4] ?_ rfl rfl
 simp -implicitDefEqProofs only [go_sem,Z1,Z2,Z3,Z4]
theorem c_impl_holdsP1 (p:Atom → Bool) (atoms:List Atom) (vals:List Bool) (m:Int) (cl:List (List Int)) (fs:List Mod.Form) (hf:∀ a ∈ atoms,C E.P 31 [av (cAtom a),.ptr 0 0,.ptr 1 0] (trE vals atoms m cl fs) (Eq2 (bv (p a)) (trE vals atoms m cl fs))) (t:Mod.Form)
 (ih:∀ k ∈ t.kids,∀ d:Nat,formShape k d = true → inside atoms k → C E.P 30 [av (cForm k),.fn 31 [.ptr 0 0,.ptr 1 0]] (trE vals atoms m cl fs) (Eq2 (bv (holds p k)) (trE vals atoms m cl fs))) (d:Nat) (hsh:formShape t d = true) (hin:inside atoms t) :
 C E.P 30 [av (cForm t),.fn 31 [.ptr 0 0,.ptr 1 0]] (trE vals atoms m cl fs) (Eq2 (bv (holds p t)) (trE vals atoms m cl fs)):=by
 cases d with
 | zero=>cases t; simp [formShape] at hsh
 | succ d=>
 have hk:=formShape_kids hsh
 have ht:=holds_eq p t
 have hLB:=LB_eq
 refine C_goS (nt:=70) (rs:=[.tmp 4]) hm Tryz.func30 rfl rfl rfl rfl rfl (fun hl he=>?_)
 simp -implicitDefEqProofs only [go_sem,Z1,Z2,Z3,Z4] at hl ⊢
 refine loop_go1 hm (fun (i:Nat)=> i ≤ t.kids.length) (fun (i:Nat)=> ⟨mkS 70 .any [(1,.fn 31 [.ptr 0 0,.ptr 1 0]),(2,.ptr 5 0),(5,.ptr 6 0),(9,lv (rowsForm t.kids)),(10,iv t.kids.length),(11,iv i)],[some (.box [lv (rowsB vals)]),some (.box [.ptr 2 0]),some (.box [iv m,.acc 3,lv (rowsAtom atoms),.acc 4]),some (.acc 43 (rowsII cl)),some (.acc 49 (rowsForm fs)),some (.box (pvs (cForm t))),some (.box [bv (isAt p t i 0),bv (isAt p t i 1)])]⟩) (fun (i:Nat)=> t.kids.length - i) (0) ?_ (weakS [some 0,some 1,some 2,some 3,some 4,some 5,some 6] ?_ ?_ rfl rfl) ?_
 rotate_left
 ·simp -implicitDefEqProofs only [go_sem,Z1,Z2,Z3,Z4]
 ·simp -implicitDefEqProofs only [go_sem,Z1,Z2,Z3,Z4]
  all_goals (simp [isAt_zero])
 rotate_left
 ·omega
 ·rintro i hi
  rcases Classical.em (i < t.kids.length) with h1 | h1
  ·have hne:t.kind ≠ 1:=fun h=>by have:=(head_lit hsh h).1; rw [this] at h1; simp at h1
   have hc:=ih t.kids[i] (List.getElem_mem h1) d (formShapes_mem hk.2.2 _ (List.getElem_mem h1)) (inside_kids hin hne _ (List.getElem_mem h1))
   have hcase:i = 0 ∨ i = 1:=by omega
   rcases hcase with rfl | rfl
   ·have q1:(0:Int) < (t.kids.length:Int):=by omega
    have e0:isAt p t 1 0 = holds p t.kids[0]:=isAt_new (i:=0) h1
    have e1:isAt p t 1 1 = isAt p t 0 1:=isAt_old (i:=0) h1 (by omega)
    simp -implicitDefEqProofs only [go_sem,Z1,Z2,Z3,Z4,q1,h1]
    refine atOwn [] [0,1,2,3,4] hc ?_ ?_
    ·simp -implicitDefEqProofs only [go_sem,Z1,Z2,Z3,Z4]
     first | rfl | ((repeat' apply And.intro) <;> rfl)
    simp -implicitDefEqProofs only [go_sem,Z1,Z2,Z3,Z4]
    repeat (with_reducible apply And.intro; case left=>omega)
    refine ⟨0 + 1,?_,?_,weakS [some 0,some 1,some 2,some 3,some 4,some 5,some 6] ?_ ?_ rfl rfl⟩
    rotate_left
    ·show _ < _
     omega
    ·simp -implicitDefEqProofs only [go_sem,Z1,Z2,Z3,Z4]
     all_goals ((simp [e0,e1,wks_rfl]; done))
    ·simp -implicitDefEqProofs only [go_sem,Z1,Z2,Z3,Z4]
     all_goals ((simp [e0,e1,wks_rfl]; done))
    omega
   ·have q1:(1:Int) < (t.kids.length:Int):=by omega
    have e0:isAt p t 2 1 = holds p t.kids[1]:=isAt_new (i:=1) h1
    have e1:isAt p t 2 0 = isAt p t 1 0:=isAt_old (i:=1) h1 (by omega)
    simp -implicitDefEqProofs only [go_sem,Z1,Z2,Z3,Z4,q1,h1]
    refine atOwn [] [0,1,2,3,4] hc ?_ ?_
    ·simp -implicitDefEqProofs only [go_sem,Z1,Z2,Z3,Z4]
     first | rfl | ((repeat' apply And.intro) <;> rfl)
    simp -implicitDefEqProofs only [go_sem,Z1,Z2,Z3,Z4]
    repeat (with_reducible apply And.intro; case left=>omega)
    refine ⟨1 + 1,?_,?_,weakS [some 0,some 1,some 2,some 3,some 4,some 5,some 6] ?_ ?_ rfl rfl⟩
    rotate_left
    ·show _ < _
     omega
    ·simp -implicitDefEqProofs only [go_sem,Z1,Z2,Z3,Z4]
    ·simp -implicitDefEqProofs only [go_sem,Z1,Z2,Z3,Z4]
     all_goals ((simp [e0,e1,wks_rfl]; done))
    omega
  ·have hi2:i = t.kids.length:=by omega
   subst hi2
   have a0:=isAt_all p t 0
   have a1:=isAt_all p t 1
   simp only [holds1,← a0,← a1] at ht
   generalize isAt p t t.kids.length 0 = b0 at *
   generalize isAt p t t.kids.length 1 = b1 at *
   simp -implicitDefEqProofs only [go_sem,Z1,Z2,Z3,Z4,h1]
   rcases Classical.em (t.kind = 1) with h2 | h2
   ·have k2:=eq_true h2
    rw [if_pos h2] at ht
    have hc:=hf t.lit.atom (inside_lit hin h2)
    simp -implicitDefEqProofs only [go_sem,Z1,Z2,Z3,Z4,k2]
    refine atOwn [.ptr 0 0,.ptr 1 0] [0,1,2,3,4] hc ?_ ?_
    ·simp -implicitDefEqProofs only [go_sem,Z1,Z2,Z3,Z4]
     first | rfl | ((repeat' apply And.intro) <;> rfl)
    simp -implicitDefEqProofs only [go_sem,Z1,Z2,Z3,Z4]
    with_reducible refine ind_andM (by kernel_rfl) ?_
    refine finM' [some 0,some 1,some 2,some 3,some 4] ?_ rfl rfl
    simp -implicitDefEqProofs only [go_sem,Z1,Z2,Z3,Z4]
    rw [ht]
    rfl
   rw [if_neg h2] at ht
   rcases Classical.em (t.kind = 2) with h3 | h3
   ·have k3:=eq_true h3
    rw [if_pos h3] at ht
    simp -implicitDefEqProofs only [go_sem,Z1,Z2,Z3,Z4,h2,k3]
    refine finM' [some 0,some 1,some 2,some 3,some 4] ?_ rfl rfl
    simp -implicitDefEqProofs only [go_sem,Z1,Z2,Z3,Z4]
    rw [ht]
   rw [if_neg h3] at ht
   rcases Classical.em (t.kind = 3) with h4 | h4
   ·have k4:=eq_true h4
    rw [if_pos h4] at ht
    cases b0
    ·simp -implicitDefEqProofs only [go_sem,Z1,Z2,Z3,Z4,h2,h3,k4]
     refine finM' [some 0,some 1,some 2,some 3,some 4] ?_ rfl rfl
     simp -implicitDefEqProofs only [go_sem,Z1,Z2,Z3,Z4]
     rw [ht]
     rfl
    ·simp -implicitDefEqProofs only [go_sem,Z1,Z2,Z3,Z4,h2,h3,k4]
     repeat (with_reducible apply And.intro; case left=>omega)
     refine finM' [some 0,some 1,some 2,some 3,some 4] ?_ rfl rfl
     simp -implicitDefEqProofs only [go_sem,Z1,Z2,Z3,Z4]
     rw [ht]
     rfl
   rw [if_neg h4] at ht
   rcases Classical.em (t.kind = 4) with h5 | h5
   ·have k5:=eq_true h5
    rw [if_pos h5] at ht
    cases b0
    ·simp -implicitDefEqProofs only [go_sem,Z1,Z2,Z3,Z4,h2,h3,h4,k5]
     repeat (with_reducible apply And.intro; case left=>omega)
     refine finM' [some 0,some 1,some 2,some 3,some 4] ?_ rfl rfl
     simp -implicitDefEqProofs only [go_sem,Z1,Z2,Z3,Z4]
     rw [ht]
     rfl
    ·simp -implicitDefEqProofs only [go_sem,Z1,Z2,Z3,Z4,h2,h3,h4,k5]
     refine finM' [some 0,some 1,some 2,some 3,some 4] ?_ rfl rfl
     simp -implicitDefEqProofs only [go_sem,Z1,Z2,Z3,Z4]
     rw [ht]
     rfl
   rw [if_neg h5] at ht
   rcases Classical.em (t.kind = 5) with h6 | h6
   ·have k6:=eq_true h6
    rw [if_pos h6] at ht
    cases b0
    ·simp -implicitDefEqProofs only [go_sem,Z1,Z2,Z3,Z4,h2,h3,h4,h5,k6]
     refine finM' [some 0,some 1,some 2,some 3,some 4] ?_ rfl rfl
     simp -implicitDefEqProofs only [go_sem,Z1,Z2,Z3,Z4]
     rw [ht]
     rfl
    ·simp -implicitDefEqProofs only [go_sem,Z1,Z2,Z3,Z4,h2,h3,h4,h5,k6]
     repeat (with_reducible apply And.intro; case left=>omega)
     refine finM' [some 0,some 1,some 2,some 3,some 4] ?_ rfl rfl
     simp -implicitDefEqProofs only [go_sem,Z1,Z2,Z3,Z4]
     rw [ht]
     rfl
   rw [if_neg h6] at ht
   simp -implicitDefEqProofs only [go_sem,Z1,Z2,Z3,Z4,h2,h3,h4,h5,h6]
   repeat (with_reducible apply And.intro; case left=>omega)
   refine finM' [some 0,some 1,some 2,some 3,some 4] ?_ rfl rfl
   simp -implicitDefEqProofs only [go_sem,Z1,Z2,Z3,Z4]
   rw [ht]
theorem c_impl_holdsP (p:Atom → Bool) (atoms:List Atom) (vals:List Bool) (m:Int) (cl:List (List Int)) (fs:List Mod.Form) (hf:∀ a ∈ atoms,C E.P 31 [av (cAtom a),.ptr 0 0,.ptr 1 0] (trE vals atoms m cl fs) (Eq2 (bv (p a)) (trE vals atoms m cl fs))):∀ (t:Mod.Form) (d:Nat),formShape t d = true → inside atoms t →
 C E.P 30 [av (cForm t),.fn 31 [.ptr 0 0,.ptr 1 0]] (trE vals atoms m cl fs) (Eq2 (bv (holds p t)) (trE vals atoms m cl fs)):=
 Form.ind fun k x ks ih d h1 h2=>c_impl_holdsP1 p atoms vals m cl fs hf (.mk k x ks) ih d h1 h2
mutual
theorem nodesF_in {atoms:List Atom}:∀ (t:Mod.Form) (d:Nat),formShape t d = true → inside atoms t → ∀ f ∈ nodesF t,(∃ e,formShape f e = true) ∧ inside atoms f
 | .mk k l ks,0,h,_,_,_=>by simp [formShape] at h
 | .mk k l ks,d + 1,h,hin,f,hf=>by
   have hk:=formShape_kids h
   have hf:f ∈ (if k = 1 then [] else if k = 2 then nodesFs ks else nodesFs ks ++ [.mk k l ks]):=by
    rw [nodesF_eq] at hf
    exact hf
   rcases Classical.em (k = 1) with k1 | k1
   ·rw [if_pos k1] at hf
    simp at hf
   ·rw [if_neg k1] at hf
    have hks:=nodesFs_in (atoms:=atoms) ks d hk.2.2 (fun t ht=>inside_kids hin k1 t ht)
    rcases Classical.em (k = 2) with k2 | k2
    ·rw [if_pos k2] at hf
     exact hks f hf
    ·rw [if_neg k2] at hf
     rcases List.mem_append.1 hf with hf | hf
     ·exact hks f hf
     ·rw [List.mem_singleton.1 hf]
      exact ⟨⟨d + 1,h⟩,hin⟩
theorem nodesFs_in {atoms:List Atom}:∀ (ts:List Mod.Form) (d:Nat),formShapes ts d = true → (∀ t ∈ ts,inside atoms t) → ∀ f ∈ nodesFs ts,(∃ e,formShape f e = true) ∧ inside atoms f
 | [],_,_,_,f,hf=>by simp [nodesFs] at hf
 | t :: ts,d,h,hin,f,hf=>by
   simp only [formShapes,Bool.and_eq_true] at h
   rw [nodesFs] at hf
   rcases List.mem_append.1 hf with hf | hf
   ·exact nodesF_in t d h.1 (hin t (by simp)) f hf
   ·exact nodesFs_in ts d h.2 (fun x hx=>hin x (by simp [hx])) f hf
end
theorem nodes_ok {list:List Mod.Form} {atoms:List Atom} (h:formsAtoms list = some atoms):(nodesFs list).length ≤ 155 ∧ ∀ f ∈ nodesFs list,(∃ e,formShape f e = true) ∧ inside atoms f:=by
 obtain ⟨p1,p2,p3,p4⟩:=formsAtoms_parts h
 have key:∀ (l:List Mod.Form),(∀ f ∈ l,isForm f = true ∧ inside atoms f) → (nodesFs l).length ≤ l.length * 31 ∧ ∀ f ∈ nodesFs l,(∃ e,formShape f e = true) ∧ inside atoms f:=by
  intro l
  induction l with
  | nil=>intro _; simp [nodesFs]
  | cons f fs ih=>
    intro hf
    have s1:=isForm_shape (hf f (by simp)).1
    have s2:=nodesF_len f 5 s1.1
    have s3:=formMany_le f 5 s1.1
    have s4:=ih fun x hx=>hf x (by simp [hx])
    refine ⟨by simp only [nodesFs,List.length_append,List.length_cons]; omega,fun g hg=>?_⟩
    rw [nodesFs] at hg
    rcases List.mem_append.1 hg with hg | hg
    ·exact nodesF_in f 5 s1.1 (hf f (by simp)).2 g hg
    ·exact s4.2 g hg
 have:=key list (formsAtoms_mem h)
 exact ⟨by omega,this.2⟩
theorem rowsB_put (us:List Bool) (b:Bool):rowsB us ++ [[D.val (Value.bool b)]] = rowsB (us ++ [b]):=by rw [← rowsB_app]; rfl
theorem c_impl_CnfVals (list:List Mod.Form) (vals:List Bool):C E.P 10 [lv (rowsForm list),lv (rowsB vals)] [] (Eq2 (lv (rowsB (cnfVals list vals))) []):=by
 have hLB:=LB_eq
 refine C_goS (nt:=46) (rs:=[.tmp 4]) hm Tryz.func10 rfl rfl rfl rfl rfl (fun hl he=>?_)
 simp -implicitDefEqProofs only [go_sem,Z1,Z2,Z3,Z4] at hl ⊢
 cases h:formsAtoms list with
 | none=>
   rw [cnfVals_none h]
   refine atCall [] (c_impl_translated_no list h) ?_ ?_ <;> simp -implicitDefEqProofs only [go_sem,Z1,Z2,Z3,Z4]
   with_reducible refine ind_andM (by kernel_rfl) ?_
   refine fin1' ?_
   simp -implicitDefEqProofs only [go_sem,Z1,Z2,Z3,Z4]
 | some atoms=>
   obtain ⟨p1,p2,p3,p4⟩:=formsAtoms_parts h
   obtain ⟨n1,n2⟩:=nodes_ok h
   refine atOwn [] [1,2,3] (c_impl_translated list atoms h) ?_ ?_ <;> simp -implicitDefEqProofs only [go_sem,Z1,Z2,Z3,Z4]
   with_reducible refine ind_andM (by kernel_rfl) ?_
   rcases Classical.em (vals.length = atoms.length) with hv | hv
   ·have kv:((vals.length:Int) = (atoms.length:Int)) = True:=eq_true (by omega)
    rw [cnfVals_some h hv,← nodesFs_flat]
    have hP:=c_impl_holdsP (wOf atoms vals) atoms vals (cnfOf list).many (cnfOf list).list (nodesFs list) (fun a ha=>c_impl_CnfVals_1 vals atoms hv _ _ _ a ha)
    simp -implicitDefEqProofs only [go_sem,Z1,Z2,Z3,Z4,kv,hv]
    refine atOwn [] [5] (c_Clone_bool_A vals (by omega)) ?_ ?_ <;> simp -implicitDefEqProofs only [go_sem,Z1,Z2,Z3,Z4]
    generalize nodesFs list = fs at n1 n2 hP ⊢
    generalize (cnfOf list).list = cl at hP ⊢
    generalize (cnfOf list).many = m at hP ⊢
    refine loop_go1 hm (fun (i:Nat)=> i ≤ fs.length) (fun (i:Nat)=> ⟨mkS 46 .any [(3,.ptr 0 0),(5,.ptr 4 0),(7,.acc 5),(32,.acc 3),(33,iv fs.length),(34,iv i)],[some (.box [lv (rowsB vals)]),some (.box [iv m,.acc 2,lv (rowsAtom atoms),.acc 3]),some (.acc 43 (rowsII cl)),some (.acc 49 (rowsForm fs)),some (.box [.ptr 1 0]),some (.acc 4 (rowsB (vals ++ (fs.take i).map (holds (wOf atoms vals)))))]⟩) (fun (i:Nat)=> fs.length - i) (0) ?_ (weakS [some 0,some 1,some 2,some 3,some 4,some 5] ?_ ?_ rfl rfl) ?_
    rotate_left
    ·simp -implicitDefEqProofs only [go_sem,Z1,Z2,Z3,Z4]
    ·simp -implicitDefEqProofs only [go_sem,Z1,Z2,Z3,Z4]
    rotate_left
    ·omega
    ·rintro i hi
     have hl2:(vals ++ (fs.take i).map (holds (wOf atoms vals))).length = vals.length + i:=by rw [List.length_append,List.length_map,List.length_take]; omega
     rcases Classical.em (i < fs.length) with h1 | h1
     ·obtain ⟨⟨e,he⟩,hin⟩:=n2 fs[i] (List.getElem_mem h1)
      have hc:=hP fs[i] e he hin
      have hst:rowsB (vals ++ (fs.take i).map (holds (wOf atoms vals))) ++ [[D.val (Value.bool (holds (wOf atoms vals) fs[i]))]] = rowsB (vals ++ (fs.take (i + 1)).map (holds (wOf atoms vals))):=by
       have e:fs.take (i + 1) = fs.take i ++ [fs[i]]:=by rw [List.take_add_one,List.getElem?_eq_getElem h1]; rfl
       rw [rowsB_put,e,List.map_append,List.append_assoc]
       rfl
      simp -implicitDefEqProofs only [go_sem,Z1,Z2,Z3,Z4,h1]
      refine atOwn [] [0,4,1,2,3] hc ?_ ?_
      ·simp -implicitDefEqProofs only [go_sem,Z1,Z2,Z3,Z4]
       repeat' apply And.intro
       all_goals rfl
      simp -implicitDefEqProofs only [go_sem,Z1,Z2,Z3,Z4]
      repeat (with_reducible apply And.intro; case left=>omega)
      refine ⟨i + 1,?_,?_,weakS [some 0,some 1,some 2,some 3,some 4,some 7] ?_ ?_ rfl rfl⟩
      rotate_left
      ·show _ < _
       omega
      ·simp -implicitDefEqProofs only [go_sem,Z1,Z2,Z3,Z4]
      ·simp -implicitDefEqProofs only [go_sem,Z1,Z2,Z3,Z4]
       all_goals (exact hst)
      exact h1
     ·have et:fs.take i = fs:=List.take_of_length_le (by omega)
      simp -implicitDefEqProofs only [go_sem,Z1,Z2,Z3,Z4,h1,et]
      refine fin1' ?_
      simp -implicitDefEqProofs only [go_sem,Z1,Z2,Z3,Z4]
   ·have kv:¬ ((vals.length:Int) = (atoms.length:Int)):=by omega
    rw [cnfVals_off h hv]
    simp -implicitDefEqProofs only [go_sem,Z1,Z2,Z3,Z4,kv,hv]
    refine fin1' ?_
    simp -implicitDefEqProofs only [go_sem,Z1,Z2,Z3,Z4]
end Go.Proofs.YtkkbmikoifnnbaaGreat
