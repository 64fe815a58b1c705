/-
  Arguments measured, copied and compared with themselves: models and formulas. A step towards the exact laws. Arguments measured, copied and compared with themselves: lemmas. A step towards the exact laws. Arguments measured, copied and compared with themselves: papers. A step towards the exact laws.
-/
import Derived.Test.YtgeogofjlhjcmaaGreatKRX
set_option linter.unusedVariables false
set_option linter.unusedSimpArgs false
namespace Go.Proofs.YtgeogofjlhjcmaaGreat
open Go.Eng Go.Mod
open Int renaming reduceEq → Z1,reduceLT → Z2,reduceLE → Z3,reduceToNat → Z4
set_option maxRecDepth 100000
set_option maxHeartbeats 400000
def szR (ns:List Mod.Rat) (l:Int):Int:=if l - ns.length < 0 then -1 else l - ns.length
def szRow (t:Mod.Row) (l:Int):Int:=chn [szN t.name.length,szR t.args] l
def szModel (t:Mod.Model) (l:Int):Int:=chn [szS szRow t.rows] l
mutual
def szForm:Mod.Form → Int → Int
 | .mk _ t ks,l=>if szLit t l < 0 then -1 else if szLit t l - ks.length < 0 then -1 else szForms ks (szLit t l - ks.length)
def szForms:List Mod.Form → Int → Int
 | [],l=>l
 | t :: ts,l=>if szForm t l < 0 then -1 else szForms ts (szForm t l)
end
theorem szForms_eq:∀ (ts:List Mod.Form) (l:Int),szForms ts l = szGo szForm ts l
 | [],_=>rfl
 | t :: ts,l=>by simp only [szForms,szGo,szForms_eq ts]
theorem szForm_shr:∀ t,Shr szForm t:=by
 refine Form.ind fun k t ks ih l h=>?_
 simp only [szForm,szForms_eq]
 have ht:=szLit_shr t l h
 split
 ·omega
 ·split
  ·omega
  ·have:=szGo_shr (f:=szForm) (xs:=ks) (fun x hm l h=>(ih x hm l h).2) (szLit t l - ks.length) (by omega)
   omega
theorem szForm_chn (t:Mod.Form) (l:Int):szForm t l = chn [szLit t.lit,szS szForm t.kids] l:=by
 obtain ⟨k,t,ks⟩:=t
 simp only [szForm,szForms_eq,chn,szGo,szS,Form.lit,Form.kids]
 rcases Classical.em (szLit t l < 0) with h1 | h1
 ·simp [h1]
 ·rcases Classical.em (szLit t l - ks.length < 0) with h2 | h2
  ·simp [h1,h2]
  ·have hs:=szGo_shr (f:=szForm) (xs:=ks) (fun x _ l h=>(szForm_shr x l h).2) (szLit t l - ks.length) (by omega)
   rcases Classical.em (szGo szForm ks (szLit t l - ks.length) < 0) with h3 | h3
   ·have:szGo szForm ks (szLit t l - ks.length) = -1:=by omega
    simp [h1,h2,this]
   ·simp [h1,h2,h3]
theorem c_laws_szFormS (ts:List Mod.Form) (l:Int) (h0:0 ≤ l) (hl1:l ≤ 1048576) (sh:∀ t ∈ ts,Shr szForm t) (c_laws_szForm:∀ t ∈ ts,∀ l,0 ≤ l → l ≤ 1048576 → C E.P 13 [av (cForm t),iv l] [] (Eq2 (iv (szForm t l)) [])) :
 C E.P 19 [lv (rowsForm ts),iv l] [] (Eq2 (iv (szS szForm ts l)) []):=by
 have hLB:=LB_eq
 refine C_goS (nt:=27) (rs:=[.tmp 4]) hm Tryz.func19 rfl rfl rfl rfl rfl (fun hl he=>?_)
 simp -implicitDefEqProofs only [go_sem] at hl ⊢
 repeat (with_reducible apply And.intro; case left=>omega)
 rcases Classical.em (l - ts.length < 0) with h | h
 ·simp -implicitDefEqProofs only [go_sem,h]
  refine fin1' ?_
  simp -implicitDefEqProofs only [go_sem]
  all_goals (simp [szS,h]; done)
 ·simp -implicitDefEqProofs only [go_sem,h]
  refine loop_go2 hm (fun (i:Nat) (r:Int)=> i ≤ ts.length ∧ 0 ≤ r ∧ r ≤ 1048576 ∧ szS szForm ts l = szGo szForm (ts.drop i) r) (fun (i:Nat) (r:Int)=> ⟨mkS 27 .any [(0,lv (rowsForm ts)),(1,iv r),(5,iv i)],[]⟩) (fun (i:Nat) (r:Int)=> ts.length - i) (0) (l - ts.length) ?_ (weakS [] ?_ ?_ rfl rfl) ?_
  rotate_left
  ·simp -implicitDefEqProofs only [go_sem]
  ·simp -implicitDefEqProofs only [go_sem]
  rotate_left
  ·exact ⟨by omega,by omega,by omega,by simp [szS,h]⟩
  ·rintro i r ⟨hi,hr0,hr1,hr⟩
   rcases Classical.em (i < ts.length) with h1 | h1
   ·have hs:=sh ts[i] (List.getElem_mem h1) r hr0
    have hc:=c_laws_szForm ts[i] (List.getElem_mem h1) r hr0 hr1
    simp -implicitDefEqProofs only [go_sem,h1]
    refine atCall [] hc ?_ ?_ <;> simp -implicitDefEqProofs only [go_sem]
    rcases Classical.em (szForm ts[i] r < 0) with h2 | h2
    ·simp -implicitDefEqProofs only [go_sem,h2]
     refine fin1' ?_
     simp -implicitDefEqProofs only [go_sem]
     rw [hr,szGo_drop h1,if_pos h2]
    ·simp -implicitDefEqProofs only [go_sem,h2]
     repeat (with_reducible apply And.intro; case left=>omega)
     refine ⟨i + 1,szForm ts[i] r,?_,?_,weakS [] ?_ ?_ rfl rfl⟩
     rotate_left
     ·show _ < _
      omega
     ·simp -implicitDefEqProofs only [go_sem]
     ·simp -implicitDefEqProofs only [go_sem]
     exact ⟨by omega,by omega,by omega,by rw [hr,szGo_drop h1,if_neg h2]⟩
   ·have:ts.length ≤ i:=by omega
    simp -implicitDefEqProofs only [go_sem,h1]
    refine fin1' ?_
    simp -implicitDefEqProofs only [go_sem]
    rw [hr,List.drop_of_length_le this]
    rfl
theorem c_laws_szForm1 (t:Mod.Form) (l:Int) (h0:0 ≤ l) (hl1:l ≤ 1048576) (ih:∀ k ∈ t.kids,∀ l,0 ≤ l → l ≤ 1048576 → C E.P 13 [av (cForm k),iv l] [] (Eq2 (iv (szForm k l)) [])):C E.P 13 [av (cForm t),iv l] [] (Eq2 (iv (szForm t l)) []):=by
 have hLB:=LB_eq
 refine C_goS (nt:=18) (rs:=[.tmp 4]) hm Tryz.func13 rfl rfl rfl rfl rfl (fun hl he=>?_)
 simp -implicitDefEqProofs only [go_sem] at hl ⊢
 rw [szForm_chn]
 refine atCall [] (c_laws_szLit t.lit l (by omega) (by omega)) ?_ ?_ <;> simp -implicitDefEqProofs only [go_sem]
 have s0:=((szLit_shr t.lit).shl) l (by omega)
 generalize hr0:(szLit t.lit l) = r0 at s0 ⊢
 rcases Classical.em (r0 < 0) with h0 | h0
 ·simp -implicitDefEqProofs only [go_sem,h0]
  refine fin1' ?_
  simp -implicitDefEqProofs only [go_sem]
  simp [chn,szGo,hr0,h0]
 ·simp -implicitDefEqProofs only [go_sem,h0]
  refine atCall [] (c_laws_szFormS t.kids r0 (by omega) (by omega) (fun t _=>szForm_shr t) ih) ?_ ?_ <;> simp -implicitDefEqProofs only [go_sem]
  have s1:=(Shr.shl (f:=szS szForm) (x:=t.kids) (szS_shr fun t _=>szForm_shr t)) r0 (by omega)
  generalize hr1:(szS szForm t.kids r0) = r1 at s1 ⊢
  rcases Classical.em (r1 < 0) with h1 | h1
  ·simp -implicitDefEqProofs only [go_sem,h1]
   refine fin1' ?_
   simp -implicitDefEqProofs only [go_sem]
   simp [chn,szGo,hr0,h0,hr1,h1]
  ·simp -implicitDefEqProofs only [go_sem,h1]
   refine fin1' ?_
   simp -implicitDefEqProofs only [go_sem]
   simp [chn,szGo,hr0,h0,hr1,h1]
theorem c_laws_szForm:∀ (t:Mod.Form) (l:Int),0 ≤ l → l ≤ 1048576 → C E.P 13 [av (cForm t),iv l] [] (Eq2 (iv (szForm t l)) []):=
 Form.ind fun k x ks ih l h0 h1=>c_laws_szForm1 (.mk k x ks) l h0 h1 ih
theorem c_laws_toFormS (ts:List Mod.Form) (c_laws_toForm:∀ t ∈ ts,C E.P 15 [av (cForm t)] [] (Eq2 (av (cForm t)) [])) :
 C E.P 22 [lv (rowsForm ts)] [] (Eq2 (lv (rowsForm ts)) []):=by
 have hLB:=LB_eq
 refine C_goS (nt:=23) (rs:=[.tmp 2]) hm Tryz.func22 rfl rfl rfl rfl rfl (fun hl he=>?_)
 simp -implicitDefEqProofs only [go_sem] at hl ⊢
 repeat (with_reducible apply And.intro; case left=>omega)
 refine loop_go1 hm (fun (i:Nat)=> i ≤ ts.length) (fun (i:Nat)=> ⟨mkS 23 .any [(0,lv (rowsForm ts)),(3,.acc 0),(4,iv i)],[some (.acc 63 (part (rowsForm ts) [.val (.int .i64 0),.val (.int .i64 0),.str [],.lst [],.str [],.lst [],.lst [],.lst [],.val (.int .i64 0),.val (.bool false),.val (.bool false),.lst []] i))]⟩) (fun (i:Nat)=> ts.length - i) (0) ?_ (weakS [some 0] ?_ ?_ rfl rfl) ?_
 rotate_left
 ·simp -implicitDefEqProofs only [go_sem]
 ·simp -implicitDefEqProofs only [go_sem]
  all_goals (simp [part_zero,rowsForm_len])
 rotate_left
 ·omega
 ·rintro i hi
  have hp:(part (rowsForm ts) [.val (.int .i64 0),.val (.int .i64 0),.str [],.lst [],.str [],.lst [],.lst [],.lst [],.val (.int .i64 0),.val (.bool false),.val (.bool false),.lst []] i).length = ts.length:=by rw [part_len _ _ _ (by rw [rowsForm_len]; omega),rowsForm_len]
  rcases Classical.em (i < ts.length) with h1 | h1
  ·have hset:=part_set (rowsForm ts) [.val (.int .i64 0),.val (.int .i64 0),.str [],.lst [],.str [],.lst [],.lst [],.lst [],.val (.int .i64 0),.val (.bool false),.val (.bool false),.lst []] [.val (.int .i64 ts[i].kind),.val (.int .i64 ts[i].lit.atom.kind),.str ts[i].lit.atom.A.name,.lst (rowsT ts[i].lit.atom.A.kids),.str ts[i].lit.atom.B.name,.lst (rowsT ts[i].lit.atom.B.kids),.lst (rowsT ts[i].lit.atom.nums),.lst (rowsI ts[i].lit.atom.times),.val (.int .i64 ts[i].lit.atom.bound),.val (.bool ts[i].lit.atom.strict),.val (.bool ts[i].lit.no),.lst (rowsForm ts[i].kids)] i (by rw [rowsForm_len]; exact h1) (rowsForm_row h1) rfl
   simp -implicitDefEqProofs only [go_sem,h1]
   have hc:=c_laws_toForm ts[i] (List.getElem_mem h1)
   refine atCall [] hc ?_ ?_ <;> simp -implicitDefEqProofs only [go_sem,h1,hp]
   repeat (with_reducible apply And.intro; case left=>omega)
   refine ⟨i + 1,?_,?_,weakS [some 0] ?_ ?_ rfl rfl⟩
   rotate_left
   ·show _ < _
    omega
   ·simp -implicitDefEqProofs only [go_sem]
   ·simp -implicitDefEqProofs only [go_sem]
    all_goals (exact hset)
   exact h1
  ·simp -implicitDefEqProofs only [go_sem,h1]
   refine fin1' ?_
   simp -implicitDefEqProofs only [go_sem]
   rw [part_all _ _ _ (by rw [rowsForm_len]; omega)]
theorem c_laws_toForm1 (t:Mod.Form) (ih:∀ k ∈ t.kids,C E.P 15 [av (cForm k)] [] (Eq2 (av (cForm k)) [])):C E.P 15 [av (cForm t)] [] (Eq2 (av (cForm t)) []):=by
 have hLB:=LB_eq
 refine C_goS (nt:=16) (rs:=[.cell 2 63]) hm Tryz.func15 rfl rfl rfl rfl rfl (fun hl he=>?_)
 simp -implicitDefEqProofs only [go_sem] at hl ⊢
 refine atCall [] (c_laws_toLit t.lit) ?_ ?_ <;> simp -implicitDefEqProofs only [go_sem]
 refine atCall [] (c_laws_toFormS t.kids ih) ?_ ?_ <;> simp -implicitDefEqProofs only [go_sem]
 refine fin1' ?_
 simp -implicitDefEqProofs only [go_sem]
theorem c_laws_toForm:∀ t,C E.P 15 [av (cForm t)] [] (Eq2 (av (cForm t)) []):=
 Form.ind fun k x ks ih=>c_laws_toForm1 _ ih
theorem c_laws_eqFormS (ts:List Mod.Form) (hel:∀ t ∈ ts,C E.P 17 [av (cForm t),av (cForm t)] [] (Eq2 (bv true) [])):C E.P 26 [lv (rowsForm ts),lv (rowsForm ts)] [] (Eq2 (bv true) []):=by
 have hLB:=LB_eq
 refine C_goS (nt:=27) (rs:=[.tmp 4]) hm Tryz.func26 rfl rfl rfl rfl rfl (fun hl he=>?_)
 simp -implicitDefEqProofs only [go_sem] at hl ⊢
 refine loop_go1 hm (fun (i:Nat)=> i ≤ ts.length) (fun (i:Nat)=> ⟨mkS 27 .any [(0,lv (rowsForm ts)),(1,lv (rowsForm ts)),(5,iv i)],[]⟩) (fun (i:Nat)=> ts.length - i) (0) ?_ (weakS [] ?_ ?_ rfl rfl) ?_
 rotate_left
 ·simp -implicitDefEqProofs only [go_sem]
 ·simp -implicitDefEqProofs only [go_sem]
 rotate_left
 ·omega
 ·rintro i hi
  rcases Classical.em (i < ts.length) with h1 | h1
  ·simp -implicitDefEqProofs only [go_sem,h1]
   have hc:=hel ts[i] (List.getElem_mem h1)
   refine atCall [] hc ?_ ?_ <;> simp -implicitDefEqProofs only [go_sem]
   with_reducible refine ind_andM (by kernel_rfl) ?_
   repeat (with_reducible apply And.intro; case left=>omega)
   refine ⟨i + 1,?_,?_,weakS [] ?_ ?_ rfl rfl⟩
   rotate_left
   ·show _ < _
    omega
   ·simp -implicitDefEqProofs only [go_sem]
   ·simp -implicitDefEqProofs only [go_sem]
   exact h1
  ·simp -implicitDefEqProofs only [go_sem,h1]
   refine fin1' ?_
   simp -implicitDefEqProofs only [go_sem]
theorem c_laws_eqForm1 (t:Mod.Form) (ih:∀ k ∈ t.kids,C E.P 17 [av (cForm k),av (cForm k)] [] (Eq2 (bv true) [])):C E.P 17 [av (cForm t),av (cForm t)] [] (Eq2 (bv true) []):=by
 have hLB:=LB_eq
 refine C_goS (nt:=22) (rs:=[.tmp 4]) hm Tryz.func17 rfl rfl rfl rfl rfl (fun hl he=>?_)
 simp -implicitDefEqProofs only [go_sem] at hl ⊢
 refine atCall [] (c_laws_eqLit t.lit) ?_ ?_ <;> simp -implicitDefEqProofs only [go_sem]
 refine atCall [] (c_laws_eqFormS t.kids ih) ?_ ?_ <;> simp -implicitDefEqProofs only [go_sem]
 refine fin1' ?_
 simp -implicitDefEqProofs only [go_sem]
theorem c_laws_eqForm:∀ t,C E.P 17 [av (cForm t),av (cForm t)] [] (Eq2 (bv true) []):=
 Form.ind fun k x ks ih=>c_laws_eqForm1 _ ih
end Go.Proofs.YtgeogofjlhjcmaaGreat
namespace Go.Proofs.YtgeogofjlhjcmaaGreat
open Go.Eng Go.Mod
open Int renaming reduceEq → Z1,reduceLT → Z2,reduceLE → Z3,reduceToNat → Z4
set_option maxRecDepth 100000
set_option maxHeartbeats 400000
def szLemma (t:Mod.Lemma) (l:Int):Int:=chn [szI t.marks,szCase t.case] l
theorem szLemma_chn (t:Mod.Lemma) (l:Int):szLemma t l = chn [szI t.marks,szCase t.case] l:=rfl
theorem szLemma_shr (t:Mod.Lemma):Shr szLemma t:=chn_shr (by
 intro f hf
 simp only [List.mem_cons,List.not_mem_nil,or_false] at hf
 rcases hf with rfl | rfl
 ·exact (szI_shr t.marks).shl
 ·exact (szCase_shr t.case).shl)
theorem c_laws_szLemma (t:Mod.Lemma) (l:Int) (h0:0 ≤ l) (hl1:l ≤ 1048576):C E.P 89 [av (cLemma t),iv l] [] (Eq2 (iv (szLemma t l)) []):=by
 have hLB:=LB_eq
 refine C_goS (nt:=18) (rs:=[.tmp 4]) hm Tryz.func89 rfl rfl rfl rfl rfl (fun hl he=>?_)
 simp -implicitDefEqProofs only [go_sem] at hl ⊢
 rw [szLemma_chn]
 refine atCall [] (c_laws_szIntS t.marks l (by omega) (by omega)) ?_ ?_ <;> simp -implicitDefEqProofs only [go_sem]
 have s0:=((szI_shr t.marks).shl) l (by omega)
 generalize hr0:(szI t.marks l) = r0 at s0 ⊢
 rcases Classical.em (r0 < 0) with h0 | h0
 ·simp -implicitDefEqProofs only [go_sem,h0]
  refine fin1' ?_
  simp -implicitDefEqProofs only [go_sem]
  simp [chn,szGo,hr0,h0]
 ·simp -implicitDefEqProofs only [go_sem,h0]
  refine atCall [] (c_laws_szCase t.case r0 (by omega) (by omega)) ?_ ?_ <;> simp -implicitDefEqProofs only [go_sem]
  have s1:=((szCase_shr t.case).shl) r0 (by omega)
  generalize hr1:(szCase t.case r0) = r1 at s1 ⊢
  rcases Classical.em (r1 < 0) with h1 | h1
  ·simp -implicitDefEqProofs only [go_sem,h1]
   refine fin1' ?_
   simp -implicitDefEqProofs only [go_sem]
   simp [chn,szGo,hr0,h0,hr1,h1]
  ·simp -implicitDefEqProofs only [go_sem,h1]
   refine fin1' ?_
   simp -implicitDefEqProofs only [go_sem]
   simp [chn,szGo,hr0,h0,hr1,h1]
theorem c_laws_toLemma (t:Mod.Lemma):C E.P 98 [av (cLemma t)] [] (Eq2 (av (cLemma t)) []):=by
 have hLB:=LB_eq
 refine C_goS (nt:=13) (rs:=[.cell 2 118]) hm Tryz.func98 rfl rfl rfl rfl rfl (fun hl he=>?_)
 simp -implicitDefEqProofs only [go_sem] at hl ⊢
 refine atCall [] (c_laws_toIntS t.marks) ?_ ?_ <;> simp -implicitDefEqProofs only [go_sem]
 refine atCall [] (c_laws_toCase t.case) ?_ ?_ <;> simp -implicitDefEqProofs only [go_sem]
 refine fin1' ?_
 simp -implicitDefEqProofs only [go_sem]
theorem c_laws_eqLemma (t:Mod.Lemma):C E.P 105 [av (cLemma t),av (cLemma t)] [] (Eq2 (bv true) []):=by
 have hLB:=LB_eq
 refine C_goS (nt:=17) (rs:=[.tmp 4]) hm Tryz.func105 rfl rfl rfl rfl rfl (fun hl he=>?_)
 simp -implicitDefEqProofs only [go_sem] at hl ⊢
 refine atCall [] (c_laws_eqIntS t.marks) ?_ ?_ <;> simp -implicitDefEqProofs only [go_sem]
 refine atCall [] (c_laws_eqCase t.case) ?_ ?_ <;> simp -implicitDefEqProofs only [go_sem]
 refine fin1' ?_
 simp -implicitDefEqProofs only [go_sem]
end Go.Proofs.YtgeogofjlhjcmaaGreat
namespace Go.Proofs.YtgeogofjlhjcmaaGreat
open Go.Eng Go.Mod
open Int renaming reduceEq → Z1,reduceLT → Z2,reduceLE → Z3,reduceToNat → Z4
set_option maxRecDepth 100000
set_option maxHeartbeats 400000
theorem c_laws_szIntSS (ts:List (List Int)) (l:Int) (h0:0 ≤ l) (hl1:l ≤ 1048576) (sh:∀ t ∈ ts,Shr szI t) (c_laws_szIntS:∀ t ∈ ts,∀ l,0 ≤ l → l ≤ 1048576 → C E.P 90 [lv (rowsI t),iv l] [] (Eq2 (iv (szI t l)) [])) :
 C E.P 52 [lv (rowsII ts),iv l] [] (Eq2 (iv (szS szI ts l)) []):=by
 have hLB:=LB_eq
 refine C_goS (nt:=27) (rs:=[.tmp 4]) hm Tryz.func52 rfl rfl rfl rfl rfl (fun hl he=>?_)
 simp -implicitDefEqProofs only [go_sem] at hl ⊢
 repeat (with_reducible apply And.intro; case left=>omega)
 rcases Classical.em (l - ts.length < 0) with h | h
 ·simp -implicitDefEqProofs only [go_sem,h]
  refine fin1' ?_
  simp -implicitDefEqProofs only [go_sem]
  all_goals (simp [szS,h]; done)
 ·simp -implicitDefEqProofs only [go_sem,h]
  refine loop_go2 hm (fun (i:Nat) (r:Int)=> i ≤ ts.length ∧ 0 ≤ r ∧ r ≤ 1048576 ∧ szS szI ts l = szGo szI (ts.drop i) r) (fun (i:Nat) (r:Int)=> ⟨mkS 27 .any [(0,lv (rowsII ts)),(1,iv r),(5,iv i)],[]⟩) (fun (i:Nat) (r:Int)=> ts.length - i) (0) (l - ts.length) ?_ (weakS [] ?_ ?_ rfl rfl) ?_
  rotate_left
  ·simp -implicitDefEqProofs only [go_sem]
  ·simp -implicitDefEqProofs only [go_sem]
  rotate_left
  ·exact ⟨by omega,by omega,by omega,by simp [szS,h]⟩
  ·rintro i r ⟨hi,hr0,hr1,hr⟩
   rcases Classical.em (i < ts.length) with h1 | h1
   ·have hs:=sh ts[i] (List.getElem_mem h1) r hr0
    have hc:=c_laws_szIntS ts[i] (List.getElem_mem h1) r hr0 hr1
    simp -implicitDefEqProofs only [go_sem,h1]
    refine atCall [] hc ?_ ?_ <;> simp -implicitDefEqProofs only [go_sem]
    rcases Classical.em (szI ts[i] r < 0) with h2 | h2
    ·simp -implicitDefEqProofs only [go_sem,h2]
     refine fin1' ?_
     simp -implicitDefEqProofs only [go_sem]
     rw [hr,szGo_drop h1,if_pos h2]
    ·simp -implicitDefEqProofs only [go_sem,h2]
     repeat (with_reducible apply And.intro; case left=>omega)
     refine ⟨i + 1,szI ts[i] r,?_,?_,weakS [] ?_ ?_ rfl rfl⟩
     rotate_left
     ·show _ < _
      omega
     ·simp -implicitDefEqProofs only [go_sem]
     ·simp -implicitDefEqProofs only [go_sem]
     exact ⟨by omega,by omega,by omega,by rw [hr,szGo_drop h1,if_neg h2]⟩
   ·have:ts.length ≤ i:=by omega
    simp -implicitDefEqProofs only [go_sem,h1]
    refine fin1' ?_
    simp -implicitDefEqProofs only [go_sem]
    rw [hr,List.drop_of_length_le this]
    rfl
theorem c_laws_szLemmaS (ts:List Mod.Lemma) (l:Int) (h0:0 ≤ l) (hl1:l ≤ 1048576) (sh:∀ t ∈ ts,Shr szLemma t) (c_laws_szLemma:∀ t ∈ ts,∀ l,0 ≤ l → l ≤ 1048576 → C E.P 89 [av (cLemma t),iv l] [] (Eq2 (iv (szLemma t l)) [])) :
 C E.P 51 [lv (rowsLemma ts),iv l] [] (Eq2 (iv (szS szLemma ts l)) []):=by
 have hLB:=LB_eq
 refine C_goS (nt:=27) (rs:=[.tmp 4]) hm Tryz.func51 rfl rfl rfl rfl rfl (fun hl he=>?_)
 simp -implicitDefEqProofs only [go_sem] at hl ⊢
 repeat (with_reducible apply And.intro; case left=>omega)
 rcases Classical.em (l - ts.length < 0) with h | h
 ·simp -implicitDefEqProofs only [go_sem,h]
  refine fin1' ?_
  simp -implicitDefEqProofs only [go_sem]
  all_goals (simp [szS,h]; done)
 ·simp -implicitDefEqProofs only [go_sem,h]
  refine loop_go2 hm (fun (i:Nat) (r:Int)=> i ≤ ts.length ∧ 0 ≤ r ∧ r ≤ 1048576 ∧ szS szLemma ts l = szGo szLemma (ts.drop i) r) (fun (i:Nat) (r:Int)=> ⟨mkS 27 .any [(0,lv (rowsLemma ts)),(1,iv r),(5,iv i)],[]⟩) (fun (i:Nat) (r:Int)=> ts.length - i) (0) (l - ts.length) ?_ (weakS [] ?_ ?_ rfl rfl) ?_
  rotate_left
  ·simp -implicitDefEqProofs only [go_sem]
  ·simp -implicitDefEqProofs only [go_sem]
  rotate_left
  ·exact ⟨by omega,by omega,by omega,by simp [szS,h]⟩
  ·rintro i r ⟨hi,hr0,hr1,hr⟩
   rcases Classical.em (i < ts.length) with h1 | h1
   ·have hs:=sh ts[i] (List.getElem_mem h1) r hr0
    have hc:=c_laws_szLemma ts[i] (List.getElem_mem h1) r hr0 hr1
    simp -implicitDefEqProofs only [go_sem,h1]
    refine atCall [] hc ?_ ?_ <;> simp -implicitDefEqProofs only [go_sem]
    rcases Classical.em (szLemma ts[i] r < 0) with h2 | h2
    ·simp -implicitDefEqProofs only [go_sem,h2]
     refine fin1' ?_
     simp -implicitDefEqProofs only [go_sem]
     rw [hr,szGo_drop h1,if_pos h2]
    ·simp -implicitDefEqProofs only [go_sem,h2]
     repeat (with_reducible apply And.intro; case left=>omega)
     refine ⟨i + 1,szLemma ts[i] r,?_,?_,weakS [] ?_ ?_ rfl rfl⟩
     rotate_left
     ·show _ < _
      omega
     ·simp -implicitDefEqProofs only [go_sem]
     ·simp -implicitDefEqProofs only [go_sem]
     exact ⟨by omega,by omega,by omega,by rw [hr,szGo_drop h1,if_neg h2]⟩
   ·have:ts.length ≤ i:=by omega
    simp -implicitDefEqProofs only [go_sem,h1]
    refine fin1' ?_
    simp -implicitDefEqProofs only [go_sem]
    rw [hr,List.drop_of_length_le this]
    rfl
def szPaper (t:Mod.Paper) (l:Int):Int:=chn [szS szLemma t.lemmas,szS szI t.log] l
theorem szPaper_chn (t:Mod.Paper) (l:Int):szPaper t l = chn [szS szLemma t.lemmas,szS szI t.log] l:=rfl
theorem szPaper_shr (t:Mod.Paper):Shr szPaper t:=chn_shr (by
 intro f hf
 simp only [List.mem_cons,List.not_mem_nil,or_false] at hf
 rcases hf with rfl | rfl
 ·exact Shr.shl (f:=szS szLemma) (x:=t.lemmas) (szS_shr fun t _=>szLemma_shr t)
 ·exact Shr.shl (f:=szS szI) (x:=t.log) (szS_shr fun t _=>szI_shr t))
theorem c_laws_szPaper (t:Mod.Paper) (l:Int) (h0:0 ≤ l) (hl1:l ≤ 1048576):C E.P 20 [av (cPaper t),iv l] [] (Eq2 (iv (szPaper t l)) []):=by
 have hLB:=LB_eq
 refine C_goS (nt:=18) (rs:=[.tmp 4]) hm Tryz.func20 rfl rfl rfl rfl rfl (fun hl he=>?_)
 simp -implicitDefEqProofs only [go_sem] at hl ⊢
 rw [szPaper_chn]
 refine atCall [] (c_laws_szLemmaS t.lemmas l (by omega) (by omega) (fun t _=>szLemma_shr t) (fun t _ l h0 h1=>c_laws_szLemma t l h0 h1)) ?_ ?_ <;> simp -implicitDefEqProofs only [go_sem]
 have s0:=(Shr.shl (f:=szS szLemma) (x:=t.lemmas) (szS_shr fun t _=>szLemma_shr t)) l (by omega)
 generalize hr0:(szS szLemma t.lemmas l) = r0 at s0 ⊢
 rcases Classical.em (r0 < 0) with h0 | h0
 ·simp -implicitDefEqProofs only [go_sem,h0]
  refine fin1' ?_
  simp -implicitDefEqProofs only [go_sem]
  simp [chn,szGo,hr0,h0]
 ·simp -implicitDefEqProofs only [go_sem,h0]
  refine atCall [] (c_laws_szIntSS t.log r0 (by omega) (by omega) (fun t _=>szI_shr t) (fun t _ l h0 h1=>c_laws_szIntS t l h0 h1)) ?_ ?_ <;> simp -implicitDefEqProofs only [go_sem]
  have s1:=(Shr.shl (f:=szS szI) (x:=t.log) (szS_shr fun t _=>szI_shr t)) r0 (by omega)
  generalize hr1:(szS szI t.log r0) = r1 at s1 ⊢
  rcases Classical.em (r1 < 0) with h1 | h1
  ·simp -implicitDefEqProofs only [go_sem,h1]
   refine fin1' ?_
   simp -implicitDefEqProofs only [go_sem]
   simp [chn,szGo,hr0,h0,hr1,h1]
  ·simp -implicitDefEqProofs only [go_sem,h1]
   refine fin1' ?_
   simp -implicitDefEqProofs only [go_sem]
   simp [chn,szGo,hr0,h0,hr1,h1]
theorem c_laws_toIntSS (ts:List (List Int)) (c_laws_toIntS:∀ t ∈ ts,C E.P 99 [lv (rowsI t)] [] (Eq2 (lv (rowsI t)) [])) :
 C E.P 59 [lv (rowsII ts)] [] (Eq2 (lv (rowsII ts)) []):=by
 have hLB:=LB_eq
 refine C_goS (nt:=23) (rs:=[.tmp 2]) hm Tryz.func59 rfl rfl rfl rfl rfl (fun hl he=>?_)
 simp -implicitDefEqProofs only [go_sem] at hl ⊢
 repeat (with_reducible apply And.intro; case left=>omega)
 refine loop_go1 hm (fun (i:Nat)=> i ≤ ts.length) (fun (i:Nat)=> ⟨mkS 23 .any [(0,lv (rowsII ts)),(3,.acc 0),(4,iv i)],[some (.acc 44 (part (rowsII ts) [.lst []] i))]⟩) (fun (i:Nat)=> ts.length - i) (0) ?_ (weakS [some 0] ?_ ?_ rfl rfl) ?_
 rotate_left
 ·simp -implicitDefEqProofs only [go_sem]
 ·simp -implicitDefEqProofs only [go_sem]
  all_goals (simp [part_zero,rowsII_len])
 rotate_left
 ·omega
 ·rintro i hi
  have hp:(part (rowsII ts) [.lst []] i).length = ts.length:=by rw [part_len _ _ _ (by rw [rowsII_len]; omega),rowsII_len]
  rcases Classical.em (i < ts.length) with h1 | h1
  ·have hset:=part_set (rowsII ts) [.lst []] [.lst (rowsI ts[i])] i (by rw [rowsII_len]; exact h1) (rowsII_row h1) rfl
   simp -implicitDefEqProofs only [go_sem,h1]
   have hc:=c_laws_toIntS ts[i] (List.getElem_mem h1)
   refine atCall [] hc ?_ ?_ <;> simp -implicitDefEqProofs only [go_sem,h1,hp]
   repeat (with_reducible apply And.intro; case left=>omega)
   refine ⟨i + 1,?_,?_,weakS [some 0] ?_ ?_ rfl rfl⟩
   rotate_left
   ·show _ < _
    omega
   ·simp -implicitDefEqProofs only [go_sem]
   ·simp -implicitDefEqProofs only [go_sem]
    all_goals (exact hset)
   exact h1
  ·simp -implicitDefEqProofs only [go_sem,h1]
   refine fin1' ?_
   simp -implicitDefEqProofs only [go_sem]
   rw [part_all _ _ _ (by rw [rowsII_len]; omega)]
theorem c_laws_toLemmaS (ts:List Mod.Lemma) (c_laws_toLemma:∀ t ∈ ts,C E.P 98 [av (cLemma t)] [] (Eq2 (av (cLemma t)) [])) :
 C E.P 58 [lv (rowsLemma ts)] [] (Eq2 (lv (rowsLemma ts)) []):=by
 have hLB:=LB_eq
 refine C_goS (nt:=23) (rs:=[.tmp 2]) hm Tryz.func58 rfl rfl rfl rfl rfl (fun hl he=>?_)
 simp -implicitDefEqProofs only [go_sem] at hl ⊢
 repeat (with_reducible apply And.intro; case left=>omega)
 refine loop_go1 hm (fun (i:Nat)=> i ≤ ts.length) (fun (i:Nat)=> ⟨mkS 23 .any [(0,lv (rowsLemma ts)),(3,.acc 0),(4,iv i)],[some (.acc 118 (part (rowsLemma ts) [.lst [],.val (.int .i64 0),.val (.int .i64 0),.val (.int .i64 0),.val (.int .i64 0),.str [],.lst [],.lst [],.lst [],.str [],.lst [],.str [],.lst [],.lst []] i))]⟩) (fun (i:Nat)=> ts.length - i) (0) ?_ (weakS [some 0] ?_ ?_ rfl rfl) ?_
 rotate_left
 ·simp -implicitDefEqProofs only [go_sem]
 ·simp -implicitDefEqProofs only [go_sem]
  all_goals (simp [part_zero,rowsLemma_len])
 rotate_left
 ·omega
 ·rintro i hi
  have hp:(part (rowsLemma ts) [.lst [],.val (.int .i64 0),.val (.int .i64 0),.val (.int .i64 0),.val (.int .i64 0),.str [],.lst [],.lst [],.lst [],.str [],.lst [],.str [],.lst [],.lst []] i).length = ts.length:=by rw [part_len _ _ _ (by rw [rowsLemma_len]; omega),rowsLemma_len]
  rcases Classical.em (i < ts.length) with h1 | h1
  ·have hset:=part_set (rowsLemma ts) [.lst [],.val (.int .i64 0),.val (.int .i64 0),.val (.int .i64 0),.val (.int .i64 0),.str [],.lst [],.lst [],.lst [],.str [],.lst [],.str [],.lst [],.lst []] [.lst (rowsI ts[i].marks),.val (.int .i64 ts[i].case.kind),.val (.int .i64 ts[i].case.n),.val (.int .i64 ts[i].case.why.rule),.val (.int .i64 ts[i].case.why.n),.str ts[i].case.why.t.name,.lst (rowsT ts[i].case.why.t.kids),.lst (rowsWhy ts[i].case.why.kids),.lst (rowsI ts[i].case.times),.str ts[i].case.A.name,.lst (rowsT ts[i].case.A.kids),.str ts[i].case.B.name,.lst (rowsT ts[i].case.B.kids),.lst (rowsCase ts[i].case.kids)] i (by rw [rowsLemma_len]; exact h1) (rowsLemma_row h1) rfl
   simp -implicitDefEqProofs only [go_sem,h1]
   have hc:=c_laws_toLemma ts[i] (List.getElem_mem h1)
   refine atCall [] hc ?_ ?_ <;> simp -implicitDefEqProofs only [go_sem,h1,hp]
   repeat (with_reducible apply And.intro; case left=>omega)
   refine ⟨i + 1,?_,?_,weakS [some 0] ?_ ?_ rfl rfl⟩
   rotate_left
   ·show _ < _
    omega
   ·simp -implicitDefEqProofs only [go_sem]
   ·simp -implicitDefEqProofs only [go_sem]
    all_goals (exact hset)
   exact h1
  ·simp -implicitDefEqProofs only [go_sem,h1]
   refine fin1' ?_
   simp -implicitDefEqProofs only [go_sem]
   rw [part_all _ _ _ (by rw [rowsLemma_len]; omega)]
theorem c_laws_toPaper (t:Mod.Paper):C E.P 23 [av (cPaper t)] [] (Eq2 (av (cPaper t)) []):=by
 have hLB:=LB_eq
 refine C_goS (nt:=13) (rs:=[.cell 2 80]) hm Tryz.func23 rfl rfl rfl rfl rfl (fun hl he=>?_)
 simp -implicitDefEqProofs only [go_sem] at hl ⊢
 refine atCall [] (c_laws_toLemmaS t.lemmas (fun t _=>c_laws_toLemma t)) ?_ ?_ <;> simp -implicitDefEqProofs only [go_sem]
 refine atCall [] (c_laws_toIntSS t.log (fun t _=>c_laws_toIntS t)) ?_ ?_ <;> simp -implicitDefEqProofs only [go_sem]
 refine fin1' ?_
 simp -implicitDefEqProofs only [go_sem]
theorem c_laws_eqIntSS (ts:List (List Int)) (hel:∀ t ∈ ts,C E.P 104 [lv (rowsI t),lv (rowsI t)] [] (Eq2 (bv true) [])):C E.P 61 [lv (rowsII ts),lv (rowsII ts)] [] (Eq2 (bv true) []):=by
 have hLB:=LB_eq
 refine C_goS (nt:=27) (rs:=[.tmp 4]) hm Tryz.func61 rfl rfl rfl rfl rfl (fun hl he=>?_)
 simp -implicitDefEqProofs only [go_sem] at hl ⊢
 refine loop_go1 hm (fun (i:Nat)=> i ≤ ts.length) (fun (i:Nat)=> ⟨mkS 27 .any [(0,lv (rowsII ts)),(1,lv (rowsII ts)),(5,iv i)],[]⟩) (fun (i:Nat)=> ts.length - i) (0) ?_ (weakS [] ?_ ?_ rfl rfl) ?_
 rotate_left
 ·simp -implicitDefEqProofs only [go_sem]
 ·simp -implicitDefEqProofs only [go_sem]
 rotate_left
 ·omega
 ·rintro i hi
  rcases Classical.em (i < ts.length) with h1 | h1
  ·simp -implicitDefEqProofs only [go_sem,h1]
   have hc:=hel ts[i] (List.getElem_mem h1)
   refine atCall [] hc ?_ ?_ <;> simp -implicitDefEqProofs only [go_sem]
   with_reducible refine ind_andM (by kernel_rfl) ?_
   repeat (with_reducible apply And.intro; case left=>omega)
   refine ⟨i + 1,?_,?_,weakS [] ?_ ?_ rfl rfl⟩
   rotate_left
   ·show _ < _
    omega
   ·simp -implicitDefEqProofs only [go_sem]
   ·simp -implicitDefEqProofs only [go_sem]
   exact h1
  ·simp -implicitDefEqProofs only [go_sem,h1]
   refine fin1' ?_
   simp -implicitDefEqProofs only [go_sem]
theorem c_laws_eqLemmaS (ts:List Mod.Lemma) (hel:∀ t ∈ ts,C E.P 105 [av (cLemma t),av (cLemma t)] [] (Eq2 (bv true) [])):C E.P 62 [lv (rowsLemma ts),lv (rowsLemma ts)] [] (Eq2 (bv true) []):=by
 have hLB:=LB_eq
 refine C_goS (nt:=27) (rs:=[.tmp 4]) hm Tryz.func62 rfl rfl rfl rfl rfl (fun hl he=>?_)
 simp -implicitDefEqProofs only [go_sem] at hl ⊢
 refine loop_go1 hm (fun (i:Nat)=> i ≤ ts.length) (fun (i:Nat)=> ⟨mkS 27 .any [(0,lv (rowsLemma ts)),(1,lv (rowsLemma ts)),(5,iv i)],[]⟩) (fun (i:Nat)=> ts.length - i) (0) ?_ (weakS [] ?_ ?_ rfl rfl) ?_
 rotate_left
 ·simp -implicitDefEqProofs only [go_sem]
 ·simp -implicitDefEqProofs only [go_sem]
 rotate_left
 ·omega
 ·rintro i hi
  rcases Classical.em (i < ts.length) with h1 | h1
  ·simp -implicitDefEqProofs only [go_sem,h1]
   have hc:=hel ts[i] (List.getElem_mem h1)
   refine atCall [] hc ?_ ?_ <;> simp -implicitDefEqProofs only [go_sem]
   with_reducible refine ind_andM (by kernel_rfl) ?_
   repeat (with_reducible apply And.intro; case left=>omega)
   refine ⟨i + 1,?_,?_,weakS [] ?_ ?_ rfl rfl⟩
   rotate_left
   ·show _ < _
    omega
   ·simp -implicitDefEqProofs only [go_sem]
   ·simp -implicitDefEqProofs only [go_sem]
   exact h1
  ·simp -implicitDefEqProofs only [go_sem,h1]
   refine fin1' ?_
   simp -implicitDefEqProofs only [go_sem]
theorem c_laws_eqPaper (t:Mod.Paper):C E.P 27 [av (cPaper t),av (cPaper t)] [] (Eq2 (bv true) []):=by
 have hLB:=LB_eq
 refine C_goS (nt:=17) (rs:=[.tmp 4]) hm Tryz.func27 rfl rfl rfl rfl rfl (fun hl he=>?_)
 simp -implicitDefEqProofs only [go_sem] at hl ⊢
 refine atCall [] (c_laws_eqLemmaS t.lemmas (fun t _=>c_laws_eqLemma t)) ?_ ?_ <;> simp -implicitDefEqProofs only [go_sem]
 refine atCall [] (c_laws_eqIntSS t.log (fun t _=>c_laws_eqIntS t)) ?_ ?_ <;> simp -implicitDefEqProofs only [go_sem]
 refine fin1' ?_
 simp -implicitDefEqProofs only [go_sem]
end Go.Proofs.YtgeogofjlhjcmaaGreat
