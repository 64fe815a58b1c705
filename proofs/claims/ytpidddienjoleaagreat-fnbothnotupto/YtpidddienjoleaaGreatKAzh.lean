/-
  The program: why two parts are one. A step towards the laws. The program: what is asked of literals, one question after the other. A step towards the laws. The program: open pairs, asked of function values. A step towards the laws.
-/
import Derived.Test.YtpidddienjoleaaGreatKAzg
import Derived.Test.YtpidddienjoleaaGreatKADa
import Derived.Test.YtpidddienjoleaaGreatKAd
import Derived.Test.YtpidddienjoleaaGreatKAN
import Derived.Test.YtpidddienjoleaaGreatKAEl
set_option linter.unusedVariables false
set_option linter.unusedSimpArgs false
namespace Go.Proofs.YtpidddienjoleaaGreat
open Go.Eng Go.Mod
open Int renaming reduceEq → Z1,reduceLT → Z2,reduceLE → Z3,reduceToNat → Z4
set_option maxRecDepth 100000
set_option maxHeartbeats 1600000
section
variable (parts:List Term) (eqs:List EqD) (c:List Nat) (steps:List Step)
theorem rowsWhy1I (a:Why):rowsWhy [a] = [cWhy a]:=by rw [rowsWhy_cons,rowsWhy_nil]
theorem rowsWhy2I (a b:Why):rowsWhy [a,b] = [cWhy a,cWhy b]:=by rw [rowsWhy_cons,rowsWhy_cons,rowsWhy_nil]
theorem c_impl_explainEdge (hok:StepsOk parts eqs steps) (hk:KidsIn parts) (hl9:parts.length ≤ 1000) (hk9:∀ t ∈ parts,t.kids.length ≤ 1000) (f:Nat)
 (ih:∀ n a b,n < f → n ≤ steps.length → a < parts.length → b < parts.length → cl (classesAt parts.length steps n) a = cl (classesAt parts.length steps n) b → C E.P 165 [.ptr 0 0,iv a,iv b,iv n] [some (.box [lv (rowsT parts),lv (rowsN c),lv (rowsStep steps)])] (Eq2 (av (cWhy (whyF parts steps f n a b))) [some (.box [lv (rowsT parts),lv (rowsN c),lv (rowsStep steps)])]))
 (d:Mod.Edge) (hi:d.step < steps.length) (hf:d.step < f):C E.P 221 [.ptr 0 0,av (cEdge d)] [some (.box [lv (rowsT parts),lv (rowsN c),lv (rowsStep steps)])] (Eq2 (av (cWhy (edgeWhy parts steps (whyF parts steps f) d))) [some (.box [lv (rowsT parts),lv (rowsN c),lv (rowsStep steps)])]):=by
 obtain ⟨i,back⟩:=d
 simp only at hi hf
 have hs:=stepAt_get hi
 have hso:=step_ok hok hi
 have a0:=hso.a0
 have b0:=hso.b0
 have a1:=vA_lt hok hi
 have b1:=vB_lt hok hi
 have eA:steps[i].A = (vA steps i:Int):=by rw [vA,hs]; rw [hs] at a0; omega
 have eB:steps[i].B = (vB steps i:Int):=by rw [vB,hs]; rw [hs] at b0; omega
 have how:=hso.how
 have hE:stepWhy parts steps (whyF parts steps f) i = if steps[i].given < 0 then .mk 5 0 (.mk (parts.getD (vA steps i) term0).name []) (((parts.getD (vA steps i) term0).kids.zip (parts.getD (vB steps i) term0).kids).map fun p=>whyF parts steps f i (placeN parts p.1) (placeN parts p.2)) else .mk 2 steps[i].given term0 []:=by rw [stepWhy,hs]
 have hed:=edgeWhy_eq parts steps (whyF parts steps f) ⟨i,back⟩
 simp only at hed
 rw [hs] at how
 have hLB:=LB_eq
 refine C_goW (nt:=80) (rs:=[.cell 4 38]) Tryz.func221 rfl rfl rfl rfl rfl (fun hl he=>?_)
 simp -implicitDefEqProofs only [go_sem] at hl ⊢
 refine W_of hm ?_
 rcases Classical.em (steps[i].given < 0) with h0 | h0
 ·rw [if_pos h0] at hE
  have hal:alike parts (classesAt parts.length steps i) (vA steps i) (vB steps i) = true:=by
   rcases how with h | ⟨n,h,_⟩
   ·rw [vA,vB,hs]; exact h.2
   ·omega
  obtain ⟨q1,q2,q3,q4⟩:=alike_at hal
  have gA:parts.getD (vA steps i) term0 = parts[vA steps i]:=by rw [List.getD_eq_getElem?_getD,List.getElem?_eq_getElem a1]; rfl
  have gB:parts.getD (vB steps i) term0 = parts[vB steps i]:=by rw [List.getD_eq_getElem?_getD,List.getElem?_eq_getElem b1]; rfl
  have mA:=List.getElem_mem a1
  have mB:=List.getElem_mem b1
  obtain ⟨x,hx⟩:∃ x,parts[vA steps i] = x:=⟨_,rfl⟩
  obtain ⟨y,hy⟩:∃ y,parts[vB steps i] = y:=⟨_,rfl⟩
  rw [hx] at gA mA
  rw [hy] at gB mB
  rw [gA] at q1 q2 q3 q4 hE
  rw [gB] at q2 q3 q4 hE
  have kx:=hk _ mA
  have ky:=hk _ mB
  have kl:=hk9 _ mA
  simp -implicitDefEqProofs only [go_sem,hi,h0,eA,eB,a1,b1,hx,hy]
  with_reducible refine ind_andM (by kernel_rfl) ?_
  with_reducible refine ind_andM (by kernel_rfl) ?_
  refine loop_go1 hm (fun (k:Nat)=> k ≤ x.kids.length) (fun (k:Nat)=> ⟨mkS 80 .any [(0,.ptr 0 0),(3,.ptr 1 0),(4,.ptr 2 0),(6,.ptr 3 0),(7,.ptr 4 0),(8,.ptr 5 0),(46,iv x.kids.length),(47,iv k)],[some (.box [lv (rowsT parts),lv (rowsN c),lv (rowsStep steps)]),some (.box [iv i,bv back]),some (.box (pvs (cWhy why0))),some (.box [iv 5,iv 0,sv x.name,lv [],.acc 6]),some (.box (pvs (cT x))),some (.box (pvs (cT y))),some (.acc 38 (rowsWhy (((x.kids.zip y.kids).take k).map fun p=>whyF parts steps f i (placeN parts p.1) (placeN parts p.2))))]⟩) (fun (k:Nat)=> x.kids.length - k) (0) ?_ (weakS [some 0,some 1,some 2,some 4,some 5,some 6,none] ?_ ?_ rfl rfl) ?_
  rotate_left
  ·simp -implicitDefEqProofs only [go_sem]
  ·simp -implicitDefEqProofs only [go_sem]
  rotate_left
  ·omega
  ·rintro k hk1
   have hzl:(((x.kids.zip y.kids).take k).map fun p=>whyF parts steps f i (placeN parts p.1) (placeN parts p.2)).length ≤ 1000:=by simp; omega
   rcases Classical.em (k < x.kids.length) with h1 | h1
   ·have h2:k < y.kids.length:=by omega
    have mx:=kx _ (List.getElem_mem h1)
    have my:=ky _ (List.getElem_mem h2)
    have px:=placeN_lt mx
    have py:=placeN_lt my
    have cx:=placeN_cast mx
    have cy:=placeN_cast my
    have hc:=ih i (placeN parts x.kids[k]) (placeN parts y.kids[k]) hf (by omega) px py (q4 k h1 h2)
    have hz:=zip_snoc (f:=fun p=>whyF parts steps f i (placeN parts p.1) (placeN parts p.2)) h1 h2
    have ca:=c_at parts c steps x.kids[k]
    have cb:=c_at parts c steps y.kids[k]
    rw [cx] at ca
    rw [cy] at cb
    simp -implicitDefEqProofs only [go_sem,h1]
    refine atLook [] [0] ca rfl ?_ ?_ ?_
    ·(simp -implicitDefEqProofs only [go_sem]; repeat' (first | exact Vws.nil | apply Vws.cons | exact Vw.same (by first | rfl | simp -implicitDefEqProofs only [go_sem,Z1,Z2,Z3,Z4]) | exact Vw.acc rfl rfl | exact Vw.tre rfl rfl (by simp -implicitDefEqProofs only [go_sem,Z1,Z2,Z3,Z4]) | exact Vw.nil | apply Vw.agg | apply Vw.fn | refine Vw.box rfl rfl ?_))
    all_goals simp -implicitDefEqProofs only [go_sem,h2]
    refine atLook [] [0] cb rfl ?_ ?_ ?_
    ·(simp -implicitDefEqProofs only [go_sem]; repeat' (first | exact Vws.nil | apply Vws.cons | exact Vw.same (by first | rfl | simp -implicitDefEqProofs only [go_sem,Z1,Z2,Z3,Z4]) | exact Vw.acc rfl rfl | exact Vw.tre rfl rfl (by simp -implicitDefEqProofs only [go_sem,Z1,Z2,Z3,Z4]) | exact Vw.nil | apply Vw.agg | apply Vw.fn | refine Vw.box rfl rfl ?_))
    all_goals simp -implicitDefEqProofs only [go_sem]
    refine atOwn [] [0] hc ?_ ?_ <;> simp -implicitDefEqProofs only [go_sem]
    repeat (first | with_reducible refine ind_andM (by kernel_rfl) ?_ | (with_reducible apply And.intro; case left=>omega))
    refine ⟨k + 1,?_,?_,weakS [some 0,some 1,some 2,some 3,some 4,some 5,some 7] ?_ ?_ rfl rfl⟩
    rotate_left
    ·show _ < _
     omega
    ·simp -implicitDefEqProofs only [go_sem]
    ·simp -implicitDefEqProofs only [go_sem]
     all_goals ((rw [hz,← rowsWhy_app,rowsWhy_cons,rowsWhy_nil]; rfl))
    exact h1
   ·have et:(x.kids.zip y.kids).take k = x.kids.zip y.kids:=List.take_of_length_le (by simp; omega)
    rw [et]
    cases back
    ·rw [if_neg (by simp),hE] at hed
     simp -implicitDefEqProofs only [go_sem,h1,onQ_on]
     refine FinW_of ?_
     refine finM' [some 0] ?_ rfl rfl
     simp -implicitDefEqProofs only [go_sem]
     rw [hed]
     ((repeat' apply And.intro) <;> rfl)
    ·rw [if_pos rfl,hE] at hed
     simp -implicitDefEqProofs only [go_sem,h1,onQ_on]
     refine ⟨_,Wk0.weak (put_row 7 0 _ rfl (by simp) (show rwT _ 0 = [T.leaf (D.val (Value.int IntKind.i64 5)),T.leaf (D.val (Value.int IntKind.i64 0)),T.leaf (D.str x.name),T.leaf (D.lst []),T.ref 6] from rfl)),?_⟩
     simp -implicitDefEqProofs only [go_sem]
     refine finM' [some 0] ?_ rfl rfl
     simp -implicitDefEqProofs only [go_sem]
     rw [hed]
     ((repeat' apply And.intro) <;> first | rfl | exact ⟨_,(by simp only [List.set_cons_zero,frzRows,frzCells,T.frz,frzRows_lift]; try rfl),rowsWhy1I _⟩)
 ·rw [if_neg h0] at hE
  cases back
  ·rw [if_neg (by simp),hE] at hed
   simp -implicitDefEqProofs only [go_sem,hi,h0,onQ_on]
   with_reducible refine ind_andM (by kernel_rfl) ?_
   refine FinW_of ?_
   refine finM' [some 0] ?_ rfl rfl
   simp -implicitDefEqProofs only [go_sem]
   rw [hed]
   ((repeat' apply And.intro) <;> rfl)
  ·rw [if_pos rfl,hE] at hed
   simp -implicitDefEqProofs only [go_sem,hi,h0,onQ_on]
   with_reducible refine ind_andM (by kernel_rfl) ?_
   refine FinW_of ?_
   refine finM' [some 0] ?_ rfl rfl
   simp -implicitDefEqProofs only [go_sem]
   rw [hed]
   ((repeat' apply And.intro) <;> first | rfl | exact (rowsWhy1I _).symm)
theorem c_impl_explain (hok:StepsOk parts eqs steps) (hk:KidsIn parts) (hl9:parts.length ≤ 1000) (hk9:∀ t ∈ parts,t.kids.length ≤ 1000) (hs9:steps.length ≤ 2000000):∀ (f n a b:Nat),n < f → n ≤ steps.length → a < parts.length → b < parts.length → cl (classesAt parts.length steps n) a = cl (classesAt parts.length steps n) b →
 C E.P 165 [.ptr 0 0,iv a,iv b,iv n] [some (.box [lv (rowsT parts),lv (rowsN c),lv (rowsStep steps)])] (Eq2 (av (cWhy (whyF parts steps f n a b))) [some (.box [lv (rowsT parts),lv (rowsN c),lv (rowsStep steps)])]):=by
 intro f
 induction f with
 | zero=>intro n a b h; omega
 | succ f ih=>
 intro n a b hnf hn ha hb hab
 obtain ⟨w1,w2,w3⟩:=way_is hok hn ha hb hab
 have cw:=c_path parts eqs c steps hok hl9 hs9 n a b hn ha hb hab
 have ga:parts.getD a term0 = parts[a]:=by rw [List.getD_eq_getElem?_getD,List.getElem?_eq_getElem ha]; rfl
 obtain ⟨way,hw⟩:∃ w,wayF parts.length steps n a b = w:=⟨_,rfl⟩
 have hF:=whyF_eq parts steps f n a b
 rw [hw] at hF w1 w3 cw
 have hwl:way.length ≤ 1000:=by
  have h1:=nodup_bound w3 (fun v hv=>by
   simp only [verts,List.mem_cons,List.mem_map] at hv
   rcases hv with rfl | ⟨e,he,rfl⟩
   ·exact ha
   ·exact endV_lt hok (by have:=w1 e he; omega))
  simp [verts] at h1
  omega
 have hLB:=LB_eq
 refine C_goS (nt:=50) (rs:=[.cell 8 38]) hm Tryz.func165 rfl rfl rfl rfl rfl (fun hl he=>?_)
 simp -implicitDefEqProofs only [go_sem] at hl ⊢
 refine atOwn [] [0] cw ?_ ?_ <;> simp -implicitDefEqProofs only [go_sem]
 rcases Nat.eq_zero_or_pos way.length with hz | hz
 ·obtain rfl:=List.length_eq_zero_iff.1 hz
  rw [whyOf] at hF
  simp -implicitDefEqProofs only [go_sem,ha]
  refine atCall [] (c_impl_Term_own parts[a]) ?_ ?_ <;> simp -implicitDefEqProofs only [go_sem]
  refine finM' [some 0] ?_ rfl rfl
  simp -implicitDefEqProofs only [go_sem]
  rw [hF,ga]
  ((repeat' apply And.intro) <;> rfl)
 ·have hne:¬ (way.length:Int) = 0:=by omega
  have hz':(0:Int) < (way.length:Int):=by omega
  have hst:=w1 _ (List.getElem_mem hz)
  have hco:=c_impl_explainEdge parts eqs c steps hok hk hl9 hk9 f ih way[0] (by omega) (by omega)
  have f1:(1:Int) ≤ (way.length:Int) ∧ ∀ y ∈ rowsEdge way,y.length = 2:=⟨by omega,rowsEdge_all _⟩
  obtain ⟨ss,hss⟩:∃ ss,way.drop 1 = ss:=⟨_,rfl⟩
  have hsl:List.take (way.length - 1) (List.drop 1 (rowsEdge way)) = rowsEdge ss:=by
   rw [← hss,List.take_of_length_le (by simp [rowsEdge])]
   simp [rowsEdge]
  have hsn:ss.length = way.length - 1:=by rw [← hss,List.length_drop]
  have hln:min (way.length - 1) (List.drop 1 (rowsEdge way)).length = ss.length:=by rw [hsn]; simp [rowsEdge]
  have hin:∀ d ∈ ss,d.step < n:=fun d hd=>w1 d (by rw [← hss] at hd; exact List.mem_of_mem_drop hd)
  have hF2:=hF
  rw [whyOf_first hz,hss] at hF2
  simp -implicitDefEqProofs only [go_sem,hne,hz]
  refine atOwn [] [0] hco ?_ ?_ <;> simp -implicitDefEqProofs only [go_sem,Z3,Z4]
  repeat (with_reducible apply And.intro; case left=>omega)
  simp -implicitDefEqProofs only [go_sem,hsl,hln]
  refine loop_go2 hm (fun (i:Nat) (w:Why)=> i ≤ ss.length ∧ whyF parts steps (f + 1) n a b = wayWhy (edgeWhy parts steps (whyF parts steps f)) w (ss.drop i)) (fun (i:Nat) (w:Why)=> ⟨mkS 50 .any [(0,.ptr 0 0),(8,.ptr 1 0),(10,.ptr 2 0),(36,lv (rowsEdge ss)),(37,iv ss.length),(38,iv i)],[some (.box [lv (rowsT parts),lv (rowsN c),lv (rowsStep steps)]),some (.box (pvs (cWhy why0))),some (.box (pvs (cWhy w)))]⟩) (fun (i:Nat) (w:Why)=> ss.length - i) (0) (edgeWhy parts steps (whyF parts steps f) way[0]) ?_ (weakS [some 0,some 1,some 2] ?_ ?_ rfl rfl) ?_
  rotate_left
  ·simp -implicitDefEqProofs only [go_sem]
  ·simp -implicitDefEqProofs only [go_sem]
  rotate_left
  ·exact ⟨Nat.zero_le _,hF2⟩
  ·rintro i w ⟨hi,hg⟩
   rcases Classical.em (i < ss.length) with h1 | h1
   ·have hd:=hin _ (List.getElem_mem h1)
    have hco2:=c_impl_explainEdge parts eqs c steps hok hk hl9 hk9 f ih ss[i] (by omega) (by omega)
    rw [List.drop_eq_getElem_cons h1,wayWhy] at hg
    simp -implicitDefEqProofs only [go_sem,h1]
    refine atOwn [] [0] hco2 ?_ ?_ <;> simp -implicitDefEqProofs only [go_sem]
    with_reducible refine ind_andM (by kernel_rfl) ?_
    repeat (with_reducible apply And.intro; case left=>omega)
    refine ⟨i + 1,.mk 4 0 term0 [w,edgeWhy parts steps (whyF parts steps f) ss[i]],?_,?_,weakS [some 0,some 1,some 2] ?_ ?_ rfl rfl⟩
    rotate_left
    ·show _ < _
     omega
    ·simp -implicitDefEqProofs only [go_sem]
    ·simp -implicitDefEqProofs only [go_sem]
     all_goals (exact ⟨rfl,rfl,rfl,rfl,(rowsWhy2I _ _).symm⟩)
    exact ⟨by omega,hg⟩
   ·rw [List.drop_of_length_le (by omega),wayWhy] at hg
    simp -implicitDefEqProofs only [go_sem,h1]
    refine finM' [some 0] ?_ rfl rfl
    simp -implicitDefEqProofs only [go_sem]
    rw [hg]
    ((repeat' apply And.intro) <;> rfl)
theorem c_impl_explained (hok:StepsOk parts eqs steps) (hk:KidsIn parts) (hl9:parts.length ≤ 1000) (hk9:∀ t ∈ parts,t.kids.length ≤ 1000) (hs9:steps.length ≤ 2000000) (x y:Term) (hx:x ∈ parts) (hy:y ∈ parts) (hxy:cl (classesAt parts.length steps steps.length) (placeN parts x) = cl (classesAt parts.length steps steps.length) (placeN parts y)) :
 C E.P 99 [.ptr 0 0,av (cT x),av (cT y)] [some (.box [lv (rowsT parts),lv (rowsN c),lv (rowsStep steps)])] (Eq2 (av (cWhy (Mod.explained parts steps x y))) [some (.box [lv (rowsT parts),lv (rowsN c),lv (rowsStep steps)])]):=by
 have hc:=c_impl_explain parts eqs c steps hok hk hl9 hk9 hs9 (steps.length + 1) steps.length (placeN parts x) (placeN parts y) (by omega) (Nat.le_refl _) (placeN_lt hx) (placeN_lt hy) hxy
 have ca:=c_at parts c steps x
 have cb:=c_at parts c steps y
 rw [placeN_cast hx] at ca
 rw [placeN_cast hy] at cb
 have hLB:=LB_eq
 refine C_goS (nt:=20) (rs:=[.cell 6 38]) hm Tryz.func99 rfl rfl rfl rfl rfl (fun hl he=>?_)
 simp -implicitDefEqProofs only [go_sem] at hl ⊢
 refine atLook [] [0] ca rfl ?_ ?_ ?_
 ·(simp -implicitDefEqProofs only [go_sem]; repeat' (first | exact Vws.nil | apply Vws.cons | exact Vw.same (by first | rfl | simp -implicitDefEqProofs only [go_sem,Z1,Z2,Z3,Z4]) | exact Vw.acc rfl rfl | exact Vw.tre rfl rfl (by simp -implicitDefEqProofs only [go_sem,Z1,Z2,Z3,Z4]) | exact Vw.nil | apply Vw.agg | apply Vw.fn | refine Vw.box rfl rfl ?_))
 all_goals simp -implicitDefEqProofs only [go_sem]
 refine atLook [] [0] cb rfl ?_ ?_ ?_
 ·(simp -implicitDefEqProofs only [go_sem]; repeat' (first | exact Vws.nil | apply Vws.cons | exact Vw.same (by first | rfl | simp -implicitDefEqProofs only [go_sem,Z1,Z2,Z3,Z4]) | exact Vw.acc rfl rfl | exact Vw.tre rfl rfl (by simp -implicitDefEqProofs only [go_sem,Z1,Z2,Z3,Z4]) | exact Vw.nil | apply Vw.agg | apply Vw.fn | refine Vw.box rfl rfl ?_))
 all_goals simp -implicitDefEqProofs only [go_sem]
 refine atOwn [] [0] hc ?_ ?_ <;> simp -implicitDefEqProofs only [go_sem]
 with_reducible refine ind_andM (by kernel_rfl) ?_
 refine finM' [some 0] ?_ rfl rfl
 simp -implicitDefEqProofs only [go_sem]
 ((repeat' apply And.intro) <;> rfl)
end
end Go.Proofs.YtpidddienjoleaaGreat
namespace Go.Proofs.YtpidddienjoleaaGreat
open Go.Eng Go.Mod
open Int renaming reduceEq → Z1,reduceLT → Z2,reduceLE → Z3,reduceToNat → Z4
set_option maxRecDepth 100000
set_option maxHeartbeats 1600000
def cDec (s:Sig) (terms nums:List Term):List D:=[.lst (rowsSym s.syms),.lst (rowsT terms),.lst (rowsT nums)]
attribute [go_sem] cDec
theorem c_impl_links (s:Sig) (terms nums:List Term) (eqs:List EqD) (h4:nums.length ≤ 4) (he9:eqs.length ≤ 1000):C E.P 92 [.ptr 0 0,lv (rowsEq eqs)] [some (.box (pvs (cDec s terms nums)))] (Eq2 (lv (rowsN (links nums eqs))) [some (.box (pvs (cDec s terms nums)))]):=by
 have hLB:=LB_eq
 refine C_goS (nt:=82) (rs:=[.tmp 4]) hm Tryz.func92 rfl rfl rfl rfl rfl (fun hl he=>?_)
 simp -implicitDefEqProofs only [go_sem] at hl ⊢
 repeat (with_reducible apply And.intro; case left=>omega)
 refine loop_go2 hm (fun (i:Nat) (c:List Nat)=> i ≤ nums.length ∧ c.length = nums.length ∧ c.take i = List.range i) (fun (i:Nat) (c:List Nat)=> ⟨mkS 82 .any [(0,.ptr 0 0),(1,lv (rowsEq eqs)),(5,.acc 1),(22,iv nums.length),(23,iv i)],[some (.box (pvs (cDec s terms nums))),some (.acc 3 (rowsN c))]⟩) (fun (i:Nat) (c:List Nat)=> nums.length - i) (0) (List.replicate nums.length 0) ?_ (weakS [some 0,some 1] ?_ ?_ rfl rfl) ?_
 rotate_left
 ·simp -implicitDefEqProofs only [go_sem]
  all_goals ((simp []))
 ·simp -implicitDefEqProofs only [go_sem]
  all_goals ((simp [rowsN]))
 rotate_left
 ·exact ⟨Nat.zero_le _,by simp,rfl⟩
 ·rintro i c ⟨hi,hc,ht⟩
  rcases Classical.em (i < nums.length) with h1 | h1
  ·have h1':i < c.length:=by omega
   have hp:=rowsN_put (l:=c) (i:=i) (n:=i) h1'
   rw [rowsN_row h1'] at hp
   simp -implicitDefEqProofs only [go_sem,h1,h1']
   repeat (with_reducible apply And.intro; case left=>omega)
   refine ⟨i + 1,c.set i i,?_,?_,weakS [some 0,some 1] ?_ ?_ rfl rfl⟩
   rotate_left
   ·show _ < _
    omega
   ·simp -implicitDefEqProofs only [go_sem]
   ·simp -implicitDefEqProofs only [go_sem]
    all_goals (exact hp)
   refine ⟨by omega,by simpa using hc,?_⟩
   rw [List.range_succ,← ht,List.take_add_one,List.take_set_of_le (Nat.le_refl _)]
   simp [h1']
  ·obtain rfl:i = nums.length:=by omega
   have e:c = List.range nums.length:=by
    rw [← ht,List.take_of_length_le (by omega)]
   rw [e]
   simp -implicitDefEqProofs only [go_sem,h1]
   clear hi hc ht h1 e c
   refine loop_go2 hm (fun (n:Nat) (c:List Nat)=> n ≤ eqs.length ∧ c.length = nums.length ∧ links nums eqs = (eqs.drop n).foldl (linkStep nums) c) (fun (n:Nat) (c:List Nat)=> ⟨mkS 82 .any [(0,.ptr 0 0),(5,.acc 1),(31,lv (rowsEq eqs)),(32,iv eqs.length),(33,iv n)],[some (.box (pvs (cDec s terms nums))),some (.acc 3 (rowsN c))]⟩) (fun (n:Nat) (c:List Nat)=> eqs.length - n) (0) (List.range nums.length) ?_ (weakS [some 0,some 1] ?_ ?_ rfl rfl) ?_
   rotate_left
   ·simp -implicitDefEqProofs only [go_sem]
   ·simp -implicitDefEqProofs only [go_sem]
   rotate_left
   ·exact ⟨Nat.zero_le _,by simp,rfl⟩
   ·rintro n c ⟨hn,hc,hg⟩
    rcases Classical.em (n < eqs.length) with h1 | h1
    ·rw [List.drop_eq_getElem_cons h1,List.foldl_cons] at hg
     rcases Classical.em (eqs[n].A ∈ nums) with hA | hA
     ·rcases Classical.em (eqs[n].B ∈ nums) with hB | hB
      ·have pA:=placeN_lt hA
       have pB:=placeN_lt hB
       have cA:=placeN_cast hA
       have cB:=placeN_cast hB
       have ca:=c_impl_termIndex nums eqs[n].A
       have cb:=c_impl_termIndex nums eqs[n].B
       rw [cA] at ca
       rw [cB] at cb
       have es:linkStep nums c eqs[n] = c.map fun k=>if k = cl c (placeN nums eqs[n].A) then cl c (placeN nums eqs[n].B) else k:=by rw [linkStep,if_neg (by omega)]
       have hlen:=linkStep_len nums c eqs[n]
       rw [es] at hg hlen
       generalize placeN nums eqs[n].A = a at *
       generalize placeN nums eqs[n].B = b at *
       have pA':a < c.length:=by omega
       have pB':b < c.length:=by omega
       have eA:c[a] = cl c a:=(cl_lt pA').symm
       have eB:c[b] = cl c b:=(cl_lt pB').symm
       have nA:¬ (a:Int) < 0:=by omega
       have nB:¬ (b:Int) < 0:=by omega
       obtain ⟨f,hf⟩:∃ f,cl c a = f:=⟨_,rfl⟩
       obtain ⟨t,ht⟩:∃ t,cl c b = t:=⟨_,rfl⟩
       rw [hf] at eA hg hlen
       rw [ht] at eB hg hlen
       have hend:∀ i,c.length ≤ i → joinUp c f t i = c.map fun k=>if k = f then t else k:=fun i hi=>by
        unfold joinUp
        rw [List.take_of_length_le hi,List.drop_of_length_le hi,List.append_nil]
       simp -implicitDefEqProofs only [go_sem,h1]
       refine atCall [] ca ?_ ?_ <;> simp -implicitDefEqProofs only [go_sem]
       refine atCall [] cb ?_ ?_ <;> simp -implicitDefEqProofs only [go_sem]
       with_reducible refine ind_andM (by kernel_rfl) ?_
       simp -implicitDefEqProofs only [go_sem,nA,nB,pA',pB',eA,eB]
       with_reducible refine ind_andM (by kernel_rfl) ?_
       refine loop_go1 hm (fun (i:Nat)=> i ≤ c.length) (fun (i:Nat)=> ⟨mkS 82 .any [(0,.ptr 0 0),(5,.acc 1),(11,iv f),(12,iv t),(31,lv (rowsEq eqs)),(32,iv eqs.length),(33,iv n),(65,.acc 1),(66,iv c.length),(67,iv i)],[some (.box (pvs (cDec s terms nums))),some (.acc 3 (rowsN (joinUp c f t i)))]⟩) (fun (i:Nat)=> c.length - i) (0) ?_ (weakS [some 0,some 1] ?_ ?_ rfl rfl) ?_
       rotate_left
       ·simp -implicitDefEqProofs only [go_sem]
       ·simp -implicitDefEqProofs only [go_sem]
        all_goals ((simp [joinUp]))
       rotate_left
       ·omega
       ·rintro i hi
        have hjl:=joinUp_len c f t i
        rcases Classical.em (i < c.length) with h2 | h2
        ·have h2':i < (joinUp c f t i).length:=by omega
         have eg:=joinUp_get (f:=f) (t:=t) h2 h2'
         rcases Classical.em (c[i] = f) with h3 | h3
         ·have k3:=eq_true h3
          have hp:=rowsN_put (l:=joinUp c f t i) (i:=i) (n:=t) h2'
          have hnx:=joinUp_next (f:=f) (t:=t) h2
          rw [if_pos h3] at hnx
          rw [rowsN_row h2',eg] at hp
          simp -implicitDefEqProofs only [go_sem,hjl,h2,eg,k3]
          repeat (with_reducible apply And.intro; case left=>omega)
          refine ⟨i + 1,?_,?_,weakS [some 0,some 1] ?_ ?_ rfl rfl⟩
          rotate_left
          ·show _ < _
           omega
          ·simp -implicitDefEqProofs only [go_sem]
          ·simp -implicitDefEqProofs only [go_sem]
           all_goals ((rw [hp,hnx]))
          exact h2
         ·have hnx:=joinUp_keep (f:=f) (t:=t) h2 h3
          simp -implicitDefEqProofs only [go_sem,hjl,h2,eg,h3]
          repeat (with_reducible apply And.intro; case left=>omega)
          refine ⟨i + 1,?_,?_,weakS [some 0,some 1] ?_ ?_ rfl rfl⟩
          rotate_left
          ·show _ < _
           omega
          ·simp -implicitDefEqProofs only [go_sem]
          ·simp -implicitDefEqProofs only [go_sem]
           all_goals ((rw [hnx]))
          exact h2
        ·rw [hend i (by omega)] at hjl ⊢
         simp -implicitDefEqProofs only [go_sem,h2]
         repeat (with_reducible apply And.intro; case left=>omega)
         refine ⟨n + 1,(c.map fun k=>if k = f then t else k),?_,?_,weakS [some 0,some 1] ?_ ?_ rfl rfl⟩
         rotate_left
         ·show _ < _
          omega
         ·simp -implicitDefEqProofs only [go_sem]
         ·simp -implicitDefEqProofs only [go_sem]
         exact ⟨by omega,by simpa using hc,hg⟩
      ·have h3:termIdx nums eqs[n].B < 0:=by
        have:=(not_congr termIdx_nn).2 hB
        omega
       have cA:=placeN_cast hA
       have nA:¬ termIdx nums eqs[n].A < 0:=by omega
       have es:linkStep nums c eqs[n] = c:=by rw [linkStep,if_pos (.inr h3)]
       rw [es] at hg
       simp -implicitDefEqProofs only [go_sem,h1]
       refine atCall [] (c_impl_termIndex nums eqs[n].A) ?_ ?_ <;> simp -implicitDefEqProofs only [go_sem]
       refine atCall [] (c_impl_termIndex nums eqs[n].B) ?_ ?_ <;> simp -implicitDefEqProofs only [go_sem]
       with_reducible refine ind_andM (by kernel_rfl) ?_
       simp -implicitDefEqProofs only [go_sem,nA,h3]
       repeat (with_reducible apply And.intro; case left=>omega)
       refine ⟨n + 1,c,?_,?_,weakS [some 0,some 1] ?_ ?_ rfl rfl⟩
       rotate_left
       ·show _ < _
        omega
       ·simp -implicitDefEqProofs only [go_sem]
       ·simp -implicitDefEqProofs only [go_sem]
       exact ⟨by omega,hc,hg⟩
     ·have h3:termIdx nums eqs[n].A < 0:=by
       have:=(not_congr termIdx_nn).2 hA
       omega
      have es:linkStep nums c eqs[n] = c:=by rw [linkStep,if_pos (.inl h3)]
      rw [es] at hg
      simp -implicitDefEqProofs only [go_sem,h1]
      refine atCall [] (c_impl_termIndex nums eqs[n].A) ?_ ?_ <;> simp -implicitDefEqProofs only [go_sem]
      refine atCall [] (c_impl_termIndex nums eqs[n].B) ?_ ?_ <;> simp -implicitDefEqProofs only [go_sem]
      with_reducible refine ind_andM (by kernel_rfl) ?_
      simp -implicitDefEqProofs only [go_sem,h3]
      repeat (with_reducible apply And.intro; case left=>omega)
      refine ⟨n + 1,c,?_,?_,weakS [some 0,some 1] ?_ ?_ rfl rfl⟩
      rotate_left
      ·show _ < _
       omega
      ·simp -implicitDefEqProofs only [go_sem]
      ·simp -implicitDefEqProofs only [go_sem]
      exact ⟨by omega,hc,hg⟩
    ·rw [List.drop_of_length_le (by omega),List.foldl_nil] at hg
     simp -implicitDefEqProofs only [go_sem,h1]
     refine finM' [some 0] ?_ rfl rfl
     simp -implicitDefEqProofs only [go_sem]
     rw [hg]
     ((repeat' apply And.intro) <;> rfl)
theorem c_impl_clash (s:Sig) (terms nums:List Term) (eqs:List EqD) (lits:List LitD) (hk:KidsIn terms) (hin:∀ e ∈ eqs,e.A ∈ terms ∧ e.B ∈ terms) (hl9:terms.length ≤ 1000) (hk9:∀ t ∈ terms,t.kids.length ≤ 1000) (hlk:∀ l ∈ lits,l.atom.kind = 1 → l.atom.A ∈ terms ∧ l.atom.B ∈ terms) :
 C E.P 90 [.ptr 0 0,lv (rowsLit lits),.ptr 1 0] [some (.box (pvs (cDec s terms nums))),some (.box [lv (rowsT terms),lv (rowsN (closed terms eqs).1),lv (rowsStep (closed terms eqs).2)])]
   (Eq2 (.tup [av (cCase (match firstAt (clashes terms (closed terms eqs).1) lits with | none=>case0 | some n=>.mk 1 n (Mod.explained terms (closed terms eqs).2 (lits.getD n lit0).atom.A (lits.getD n lit0).atom.B) [] term0 term0 [])),bv (firstAt (clashes terms (closed terms eqs).1) lits).isSome]) [some (.box (pvs (cDec s terms nums))),some (.box [lv (rowsT terms),lv (rowsN (closed terms eqs).1),lv (rowsStep (closed terms eqs).2)])]):=by
 have hkept:=closed_kept (parts:=terms) (eqs:=eqs) hin
 have hc:=kept_len hkept
 have hsl:(closed terms eqs).2.length ≤ 2000000:=by
  have h1:=kept_steps hkept (closed terms eqs).2.length (Nat.le_refl _)
  have h2:(List.range terms.length).sum ≤ (List.range terms.length).length * 1000:=sum_bound fun x hx=>by have:=List.mem_range.1 hx; omega
  have h3:(List.range terms.length).length * 1000 ≤ 1000 * 1000:=Nat.mul_le_mul_right _ (by simpa using hl9)
  omega
 have hex:∀ x y,x ∈ terms → y ∈ terms → sameCl terms (closed terms eqs).1 x y = true → C E.P 99 [.ptr 0 0,av (cT x),av (cT y)] [some (.box [lv (rowsT terms),lv (rowsN (closed terms eqs).1),lv (rowsStep (closed terms eqs).2)])] (Eq2 (av (cWhy (Mod.explained terms (closed terms eqs).2 x y))) [some (.box [lv (rowsT terms),lv (rowsN (closed terms eqs).1),lv (rowsStep (closed terms eqs).2)])]):=fun x y hx hy hxy=>by
  refine c_impl_explained terms eqs (closed terms eqs).1 (closed terms eqs).2 hkept.1 hk hl9 hk9 hsl x y hx hy ?_
  rw [← hkept.2]
  simpa [sameCl] using hxy
 obtain ⟨c,ec⟩:∃ c,(closed terms eqs).1 = c:=⟨_,rfl⟩
 obtain ⟨steps,es⟩:∃ x,(closed terms eqs).2 = x:=⟨_,rfl⟩
 rw [ec] at hc hex ⊢
 rw [es] at hex ⊢
 obtain ⟨R,hR⟩:∃ R,firstAt (clashes terms c) lits = R:=⟨_,rfl⟩
 rw [hR]
 have hLB:=LB_eq
 refine C_goS (nt:=60) (rs:=[.cell 6 42,.tmp 7]) hm Tryz.func90 rfl rfl rfl rfl rfl (fun hl he=>?_)
 simp -implicitDefEqProofs only [go_sem] at hl ⊢
 refine loop_go1 hm (fun (i:Nat)=> i ≤ lits.length ∧ R = firstG (clashes terms c) lits i) (fun (i:Nat)=> ⟨mkS 60 .any [(2,.ptr 1 0),(6,.ptr 2 0),(11,lv (rowsLit lits)),(12,iv lits.length),(13,iv i)],[some (.box (pvs (cDec s terms nums))),some (.box [lv (rowsT terms),lv (rowsN c),lv (rowsStep steps)]),some (.box (pvs (cCase case0)))]⟩) (fun (i:Nat)=> lits.length - i) (0) ?_ (weakS [some 0,some 1,some 2] ?_ ?_ rfl rfl) ?_
 rotate_left
 ·simp -implicitDefEqProofs only [go_sem]
 ·simp -implicitDefEqProofs only [go_sem]
  all_goals (((repeat' apply And.intro) <;> rfl))
 rotate_left
 ·exact ⟨Nat.zero_le _,by rw [← hR]; exact firstAt_eq _ _⟩
 ·rintro i ⟨hi,hg⟩
  rcases Classical.em (i < lits.length) with h1 | h1
  ·rw [firstG_step h1] at hg
   have hl:=hlk _ (List.getElem_mem h1)
   have ecl:clashes terms c lits[i] = (lits[i].no && (decide (lits[i].atom.kind = 1) && sameCl terms c lits[i].atom.A lits[i].atom.B)):=rfl
   cases h2:lits[i].no
   ·rw [ecl,h2,Bool.false_and,if_neg (by simp)] at hg
    simp -implicitDefEqProofs only [go_sem,h1,h2]
    with_reducible refine ind_andM (by kernel_rfl) ?_
    repeat (with_reducible apply And.intro; case left=>omega)
    refine ⟨i + 1,?_,?_,weakS [some 0,some 1,some 2] ?_ ?_ rfl rfl⟩
    rotate_left
    ·show _ < _
     omega
    ·simp -implicitDefEqProofs only [go_sem]
    ·simp -implicitDefEqProofs only [go_sem]
    exact ⟨by omega,hg⟩
   ·rcases Classical.em (lits[i].atom.kind = 1) with h3 | h3
    ·have k3:=eq_true h3
     obtain ⟨hA,hB⟩:=hl h3
     have hgd:lits.getD i lit0 = lits[i]:=getD_at h1
     rw [ecl,h2,decide_eq_true h3,Bool.true_and,Bool.true_and] at hg
     have pA:=placeN_lt hA
     have pB:=placeN_lt hB
     have pA':placeN terms lits[i].atom.A < c.length:=by omega
     have pB':placeN terms lits[i].atom.B < c.length:=by omega
     have eA:c[placeN terms lits[i].atom.A] = cl c (placeN terms lits[i].atom.A):=(cl_lt pA').symm
     have eB:c[placeN terms lits[i].atom.B] = cl c (placeN terms lits[i].atom.B):=(cl_lt pB').symm
     have ca:=c_at terms c steps lits[i].atom.A
     have cb:=c_at terms c steps lits[i].atom.B
     rw [placeN_cast hA] at ca
     rw [placeN_cast hB] at cb
     simp -implicitDefEqProofs only [go_sem,h1,h2,k3]
     refine atLook [] [1] ca rfl ?_ ?_ ?_
     ·(simp -implicitDefEqProofs only [go_sem]; repeat' (first | exact Vws.nil | apply Vws.cons | exact Vw.same (by first | rfl | simp -implicitDefEqProofs only [go_sem,Z1,Z2,Z3,Z4]) | exact Vw.acc rfl rfl | exact Vw.tre rfl rfl (by simp -implicitDefEqProofs only [go_sem,Z1,Z2,Z3,Z4]) | exact Vw.nil | apply Vw.agg | apply Vw.fn | refine Vw.box rfl rfl ?_))
     all_goals simp -implicitDefEqProofs only [go_sem,pA',eA]
     refine atLook [] [1] cb rfl ?_ ?_ ?_
     ·(simp -implicitDefEqProofs only [go_sem]; repeat' (first | exact Vws.nil | apply Vws.cons | exact Vw.same (by first | rfl | simp -implicitDefEqProofs only [go_sem,Z1,Z2,Z3,Z4]) | exact Vw.acc rfl rfl | exact Vw.tre rfl rfl (by simp -implicitDefEqProofs only [go_sem,Z1,Z2,Z3,Z4]) | exact Vw.nil | apply Vw.agg | apply Vw.fn | refine Vw.box rfl rfl ?_))
     all_goals simp -implicitDefEqProofs only [go_sem,pB',eB]
     with_reducible refine ind_andM (by kernel_rfl) ?_
     rcases Classical.em (cl c (placeN terms lits[i].atom.A) = cl c (placeN terms lits[i].atom.B)) with h4 | h4
     ·have hsm:sameCl terms c lits[i].atom.A lits[i].atom.B = true:=decide_eq_true h4
      have k4:=eq_true h4
      have hx:=hex _ _ hA hB hsm
      rw [hsm,if_pos rfl] at hg
      simp -implicitDefEqProofs only [go_sem,k4]
      refine atOwn [] [1] hx ?_ ?_ <;> simp -implicitDefEqProofs only [go_sem]
      refine finM' [some 0,some 1] ?_ rfl rfl
      simp -implicitDefEqProofs only [go_sem]
      rw [hg]
      simp only [hgd]
      ((repeat' apply And.intro) <;> rfl)
     ·have hsm:sameCl terms c lits[i].atom.A lits[i].atom.B = false:=decide_eq_false h4
      rw [hsm,if_neg (by simp)] at hg
      simp -implicitDefEqProofs only [go_sem,h4]
      repeat (with_reducible apply And.intro; case left=>omega)
      refine ⟨i + 1,?_,?_,weakS [some 0,some 1,some 2] ?_ ?_ rfl rfl⟩
      rotate_left
      ·show _ < _
       omega
      ·simp -implicitDefEqProofs only [go_sem]
      ·simp -implicitDefEqProofs only [go_sem]
      exact ⟨by omega,hg⟩
    ·rw [ecl,h2,decide_eq_false h3,Bool.true_and,Bool.false_and,if_neg (by simp)] at hg
     simp -implicitDefEqProofs only [go_sem,h1,h2,h3]
     with_reducible refine ind_andM (by kernel_rfl) ?_
     repeat (with_reducible apply And.intro; case left=>omega)
     refine ⟨i + 1,?_,?_,weakS [some 0,some 1,some 2] ?_ ?_ rfl rfl⟩
     rotate_left
     ·show _ < _
      omega
     ·simp -implicitDefEqProofs only [go_sem]
     ·simp -implicitDefEqProofs only [go_sem]
     exact ⟨by omega,hg⟩
  ·rw [firstG_end (by omega)] at hg
   simp -implicitDefEqProofs only [go_sem,h1]
   refine finM' [some 0,some 1] ?_ rfl rfl
   simp -implicitDefEqProofs only [go_sem]
   rw [hg]
   ((repeat' apply And.intro) <;> rfl)
end Go.Proofs.YtpidddienjoleaaGreat
namespace Go.Proofs.YtpidddienjoleaaGreat
open Go.Eng Go.Mod
open Int renaming reduceEq → Z1,reduceLT → Z2,reduceLE → Z3,reduceToNat → Z4
set_option maxRecDepth 100000
set_option maxHeartbeats 1600000
theorem c_IndexFunc_Lit (f:Nat) (cap:List PV) (hcap:lts 0 cap = true) (p:LitD → Bool) (xs:List LitD) (hf:∀ x ∈ xs,C E.P f (av (cLit x) :: cap) [] (Eq2 (bv (p x)) [])) :
 C E.P 222 [lv (rowsLit xs),.fn f cap] [] (Eq2 (iv (idxOf p xs)) []):=by
 have hLB:=LB_eq
 refine C_goS (nt:=19) (rs:=[.tmp 4]) hm Tryz.func222 rfl rfl rfl rfl rfl (fun hl he=>?_)
 simp -implicitDefEqProofs only [go_sem] at hl ⊢
 refine loop_go1 hm (fun (i:Nat)=> i ≤ xs.length ∧ idxOf p xs = idxGo p (xs.drop i) i) (fun (i:Nat)=> ⟨mkS 19 .any [(0,lv (rowsLit xs)),(1,.fn f cap),(7,iv xs.length),(8,iv i)],[]⟩) (fun (i:Nat)=> xs.length - i) (0) ?_ (weakS [] ?_ ?_ rfl rfl) ?_
 rotate_left
 ·simp -implicitDefEqProofs only [go_sem]
  all_goals (simp [wks_rfl, *]; done)
 ·simp -implicitDefEqProofs only [go_sem]
 rotate_left
 ·simp [idxOf]
 ·rintro i ⟨hi,hg⟩
  rcases Classical.em (i < xs.length) with h1 | h1
  ·rw [List.drop_eq_getElem_cons h1,idxGo] at hg
   simp -implicitDefEqProofs only [go_sem,h1]
   have hc:=hf xs[i] (List.getElem_mem h1)
   refine atCall cap hc ?_ ?_ <;> simp -implicitDefEqProofs only [go_sem,hcap]
   cases h2:p xs[i]
   ·rw [h2] at hg
    simp only [Bool.false_eq_true,if_false] at hg
    simp -implicitDefEqProofs only [go_sem]
    refine ⟨by omega,?_⟩
    refine ⟨i + 1,?_,?_,weakS [] ?_ ?_ rfl rfl⟩
    rotate_left
    ·show _ < _
     omega
    ·simp -implicitDefEqProofs only [go_sem]
     all_goals (simp [wks_rfl, *]; done)
    ·simp -implicitDefEqProofs only [go_sem]
    exact ⟨by omega,hg⟩
   ·rw [h2] at hg
    simp only [if_true] at hg
    simp -implicitDefEqProofs only [go_sem]
    refine fin1' ?_
    simp -implicitDefEqProofs only [go_sem]
    all_goals (simp [hg]; done)
  ·rw [List.drop_of_length_le (by omega),idxGo] at hg
   simp -implicitDefEqProofs only [go_sem,h1]
   refine fin1' ?_
   simp -implicitDefEqProofs only [go_sem]
   all_goals (simp [hg]; done)
theorem c_ContainsFunc_Lit (f:Nat) (cap:List PV) (hcap:lts 0 cap = true) (p:LitD → Bool) (xs:List LitD) (hf:∀ x ∈ xs,C E.P f (av (cLit x) :: cap) [] (Eq2 (bv (p x)) [])) :
 C E.P 167 [lv (rowsLit xs),.fn f cap] [] (Eq2 (bv (xs.any p)) []):=by
 have hLB:=LB_eq
 refine C_goS (nt:=9) (rs:=[.tmp 4]) hm Tryz.func167 rfl rfl rfl rfl rfl (fun hl he=>?_)
 simp -implicitDefEqProofs only [go_sem] at hl ⊢
 refine atCall [] (c_IndexFunc_Lit f cap hcap p xs hf) ?_ ?_ <;> simp -implicitDefEqProofs only [go_sem,hcap]
 refine fin1' ?_
 simp -implicitDefEqProofs only [go_sem]
 all_goals (simp [idx_any]; done)
theorem openP_trueI {terms nums:List Term} {c:List Nat} {lits:List LitD} {i k:Nat}:openP true terms nums c lits i k = (!Mod.linked nums lits i k && sameCl terms c (nums.getD i term0) (nums.getD k term0)):=rfl
theorem openP_falseI {terms nums:List Term} {c:List Nat} {lits:List LitD} {i k:Nat}:openP false terms nums c lits i k = (!Mod.linked nums lits i k && (!states nums lits i k && !states nums lits k i)):=rfl
theorem c_states1 (l less:LitD):C E.P 168 [av (cLit l),.iptr [cLit less] 0 0] [] (Eq2 (bv (!l.no && decide (l.atom = less.atom))) []):=by
 have hco:=c_impl_AtomSame l.atom less.atom
 have hLB:=LB_eq
 refine C_goS (nt:=14) (rs:=[.tmp 3]) hm Tryz.func168 rfl rfl rfl rfl rfl (fun hl he=>?_)
 simp -implicitDefEqProofs only [go_sem] at hl ⊢
 cases h:l.no
 ·simp -implicitDefEqProofs only [go_sem]
  refine atCall [] hco ?_ ?_ <;> simp -implicitDefEqProofs only [go_sem]
  refine fin1' ?_
  simp -implicitDefEqProofs only [go_sem]
  all_goals ((repeat' apply And.intro) <;> rfl)
 ·simp -implicitDefEqProofs only [go_sem]
  refine fin1' ?_
  simp -implicitDefEqProofs only [go_sem]
  all_goals ((repeat' apply And.intro) <;> rfl)
theorem c_states (s:Sig) (terms nums:List Term) (lits:List LitD) (i k:Nat) (hi:i < nums.length) (hk:k < nums.length) (hnt:∀ t ∈ nums,isTerm t = true):C E.P 101 [.iptr [cDec s terms nums] 0 0,lv (rowsLit lits),iv i,iv k] [] (Eq2 (bv (states nums lits i k)) []):=by
 have ga:nums.getD i term0 = nums[i]:=getD_term hi
 have gb:nums.getD k term0 = nums[k]:=getD_term hk
 have hls:=c_impl_lessLit nums[i] nums[k] (hnt _ (List.getElem_mem hi)) (hnt _ (List.getElem_mem hk))
 have hst:states nums lits i k = lits.any fun l=>!l.no && decide (l.atom = (lessLit nums[i] nums[k]).atom):=by rw [← ga,← gb]; rfl
 rw [hst]
 generalize lessLit nums[i] nums[k] = less at hls
 have hLB:=LB_eq
 refine C_goS (nt:=28) (rs:=[.tmp 8]) hm Tryz.func101 rfl rfl rfl rfl rfl (fun hl he=>?_)
 simp -implicitDefEqProofs only [go_sem] at hl ⊢
 simp -implicitDefEqProofs only [go_sem,hi,hk]
 refine atCall [] hls ?_ ?_ <;> simp -implicitDefEqProofs only [go_sem]
 with_reducible refine ind_andM (by kernel_rfl) ?_
 refine atLook [] [0] (c_ContainsFunc_Lit 168 [.iptr [cLit less] 0 0] rfl (fun l=>!l.no && decide (l.atom = less.atom)) lits (fun l _=>c_states1 l less)) rfl ?_ ?_ ?_
 ·(simp -implicitDefEqProofs only [go_sem]; repeat' (first | exact Vws.nil | apply Vws.cons | exact Vw.same (by first | rfl | simp -implicitDefEqProofs only [go_sem,Z1,Z2,Z3,Z4]) | exact Vw.acc rfl rfl | exact Vw.tre rfl rfl (by simp -implicitDefEqProofs only [go_sem,Z1,Z2,Z3,Z4]) | exact Vw.nil | apply Vw.agg | apply Vw.fn | refine Vw.box rfl rfl ?_))
 all_goals simp -implicitDefEqProofs only [go_sem]
 refine fin1' ?_
 simp -implicitDefEqProofs only [go_sem]
 all_goals ((repeat' apply And.intro) <;> rfl)
section
variable (s:Sig) (terms nums:List Term) (c ls:List Nat) (steps:List Step) (lits:List LitD)
theorem c_run1 (i k:Nat) (hi:i < nums.length) (hk:k < nums.length) (hsub:∀ t ∈ nums,t ∈ terms) (hc:c.length = terms.length):C E.P 93 [iv i,iv k,.ptr 0 0,.ptr 1 0] [some (.box [.ptr 2 0]),some (.box [.ptr 3 0]),some (.box [lv (rowsT terms),lv (rowsN c),lv (rowsStep steps)]),some (.box (pvs (cDec s terms nums)))] (Eq2 (bv (sameCl terms c nums[i] nums[k])) [some (.box [.ptr 2 0]),some (.box [.ptr 3 0]),some (.box [lv (rowsT terms),lv (rowsN c),lv (rowsStep steps)]),some (.box (pvs (cDec s terms nums)))]):=by
 have hA:=hsub _ (List.getElem_mem hi)
 have hB:=hsub _ (List.getElem_mem hk)
 have pA:=placeN_lt hA
 have pB:=placeN_lt hB
 have pA':placeN terms nums[i] < c.length:=by omega
 have pB':placeN terms nums[k] < c.length:=by omega
 have eA:c[placeN terms nums[i]] = cl c (placeN terms nums[i]):=(cl_lt pA').symm
 have eB:c[placeN terms nums[k]] = cl c (placeN terms nums[k]):=(cl_lt pB').symm
 have ca:=c_at terms c steps nums[i]
 have cb:=c_at terms c steps nums[k]
 rw [placeN_cast hA] at ca
 rw [placeN_cast hB] at cb
 have hLB:=LB_eq
 refine C_goS (nt:=38) (rs:=[.tmp 6]) hm Tryz.func93 rfl rfl rfl rfl rfl (fun hl he=>?_)
 simp -implicitDefEqProofs only [go_sem] at hl ⊢
 simp -implicitDefEqProofs only [go_sem,hi]
 refine atLook [] [2] ca rfl ?_ ?_ ?_
 ·(simp -implicitDefEqProofs only [go_sem]; repeat' (first | exact Vws.nil | apply Vws.cons | exact Vw.same (by first | rfl | simp -implicitDefEqProofs only [go_sem,Z1,Z2,Z3,Z4]) | exact Vw.acc rfl rfl | exact Vw.tre rfl rfl (by simp -implicitDefEqProofs only [go_sem,Z1,Z2,Z3,Z4]) | exact Vw.nil | apply Vw.agg | apply Vw.fn | refine Vw.box rfl rfl ?_))
 all_goals simp -implicitDefEqProofs only [go_sem,pA',eA,hk]
 refine atLook [] [2] cb rfl ?_ ?_ ?_
 ·(simp -implicitDefEqProofs only [go_sem]; repeat' (first | exact Vws.nil | apply Vws.cons | exact Vw.same (by first | rfl | simp -implicitDefEqProofs only [go_sem,Z1,Z2,Z3,Z4]) | exact Vw.acc rfl rfl | exact Vw.tre rfl rfl (by simp -implicitDefEqProofs only [go_sem,Z1,Z2,Z3,Z4]) | exact Vw.nil | apply Vw.agg | apply Vw.fn | refine Vw.box rfl rfl ?_))
 all_goals simp -implicitDefEqProofs only [go_sem,pB',eB]
 with_reducible refine ind_andM (by kernel_rfl) ?_
 refine finM' [some 0,some 1,some 2,some 3] ?_ rfl rfl
 simp -implicitDefEqProofs only [go_sem]
 all_goals ((repeat' apply And.intro) <;> rfl)
theorem c_run2 (i k:Nat) (hi:i < nums.length) (hk:k < nums.length) (hsub:∀ t ∈ nums,t ∈ terms) (hc:c.length = terms.length) (hll:ls.length = nums.length):C E.P 96 [iv i,iv k,.ptr 0 0,.ptr 1 0] [some (.box [lv (rowsN ls)]),some (.box [.fn 93 [.ptr 2 0,.ptr 3 0]]),some (.box [.ptr 4 0]),some (.box [.ptr 5 0]),some (.box [lv (rowsT terms),lv (rowsN c),lv (rowsStep steps)]),some (.box (pvs (cDec s terms nums)))] (Eq2 (bv (!decide (cl ls i = cl ls k) && sameCl terms c nums[i] nums[k])) [some (.box [lv (rowsN ls)]),some (.box [.fn 93 [.ptr 2 0,.ptr 3 0]]),some (.box [.ptr 4 0]),some (.box [.ptr 5 0]),some (.box [lv (rowsT terms),lv (rowsN c),lv (rowsStep steps)]),some (.box (pvs (cDec s terms nums)))]):=by
 have hi':i < ls.length:=by omega
 have hk':k < ls.length:=by omega
 have ei:ls[i] = cl ls i:=(cl_lt hi').symm
 have ek:ls[k] = cl ls k:=(cl_lt hk').symm
 have hco:=c_run1 s terms nums c steps i k hi hk hsub hc
 have hLB:=LB_eq
 refine C_goS (nt:=22) (rs:=[.tmp 6]) hm Tryz.func96 rfl rfl rfl rfl rfl (fun hl he=>?_)
 simp -implicitDefEqProofs only [go_sem] at hl ⊢
 rcases Classical.em (cl ls i = cl ls k) with h | h
 ·have kk:=eq_true h
  simp -implicitDefEqProofs only [go_sem,hi',hk',ei,ek,kk]
  with_reducible refine ind_andM (by kernel_rfl) ?_
  refine finM' [some 0,some 1,some 2,some 3,some 4,some 5] ?_ rfl rfl
  simp -implicitDefEqProofs only [go_sem]
  all_goals rw [decide_eq_true h]
  all_goals ((repeat' apply And.intro) <;> rfl)
 ·simp -implicitDefEqProofs only [go_sem,hi',hk',ei,ek,h]
  refine atOwn [.ptr 2 0,.ptr 3 0] [2,3,4,5] hco ?_ ?_
  ·simp -implicitDefEqProofs only [go_sem]
   first | rfl | ((repeat' apply And.intro) <;> rfl)
  simp -implicitDefEqProofs only [go_sem]
  with_reducible refine ind_andM (by kernel_rfl) ?_
  refine finM' [some 0,some 1,some 2,some 3,some 4,some 5] ?_ rfl rfl
  simp -implicitDefEqProofs only [go_sem]
  all_goals rw [decide_eq_false h]
  all_goals ((repeat' apply And.intro) <;> rfl)
theorem c_run3 (i k:Nat) (hi:i < nums.length) (hk:k < nums.length) (hnt:∀ t ∈ nums,isTerm t = true) (hll:ls.length = nums.length):C E.P 100 [iv i,iv k,.ptr 0 0,.ptr 1 0,.ptr 2 0] [some (.box [lv (rowsN ls)]),some (.box [.ptr 3 0]),some (.box [lv (rowsLit lits)]),some (.box (pvs (cDec s terms nums)))] (Eq2 (bv (!decide (cl ls i = cl ls k) && (!states nums lits i k && !states nums lits k i))) [some (.box [lv (rowsN ls)]),some (.box [.ptr 3 0]),some (.box [lv (rowsLit lits)]),some (.box (pvs (cDec s terms nums)))]):=by
 have hi':i < ls.length:=by omega
 have hk':k < ls.length:=by omega
 have ei:ls[i] = cl ls i:=(cl_lt hi').symm
 have ek:ls[k] = cl ls k:=(cl_lt hk').symm
 have c1:=c_states s terms nums lits i k hi hk hnt
 have c2:=c_states s terms nums lits k i hk hi hnt
 have hLB:=LB_eq
 refine C_goS (nt:=33) (rs:=[.tmp 7]) hm Tryz.func100 rfl rfl rfl rfl rfl (fun hl he=>?_)
 simp -implicitDefEqProofs only [go_sem] at hl ⊢
 rcases Classical.em (cl ls i = cl ls k) with h | h
 ·have kk:=eq_true h
  simp -implicitDefEqProofs only [go_sem,hi',hk',ei,ek,kk]
  with_reducible refine ind_andM (by kernel_rfl) ?_
  refine finM' [some 0,some 1,some 2,some 3] ?_ rfl rfl
  simp -implicitDefEqProofs only [go_sem]
  all_goals rw [decide_eq_true h]
  all_goals ((repeat' apply And.intro) <;> rfl)
 ·simp -implicitDefEqProofs only [go_sem,hi',hk',ei,ek,h]
  refine atLook [] [3] c1 rfl ?_ ?_ ?_
  ·(simp -implicitDefEqProofs only [go_sem]; repeat' (first | exact Vws.nil | apply Vws.cons | exact Vw.same (by first | rfl | simp -implicitDefEqProofs only [go_sem,Z1,Z2,Z3,Z4]) | exact Vw.acc rfl rfl | exact Vw.tre rfl rfl (by simp -implicitDefEqProofs only [go_sem,Z1,Z2,Z3,Z4]) | exact Vw.nil | apply Vw.agg | apply Vw.fn | refine Vw.box rfl rfl ?_))
  all_goals simp -implicitDefEqProofs only [go_sem]
  cases h2:states nums lits i k
  ·simp -implicitDefEqProofs only [go_sem]
   refine atLook [] [3] c2 rfl ?_ ?_ ?_
   ·(simp -implicitDefEqProofs only [go_sem]; repeat' (first | exact Vws.nil | apply Vws.cons | exact Vw.same (by first | rfl | simp -implicitDefEqProofs only [go_sem,Z1,Z2,Z3,Z4]) | exact Vw.acc rfl rfl | exact Vw.tre rfl rfl (by simp -implicitDefEqProofs only [go_sem,Z1,Z2,Z3,Z4]) | exact Vw.nil | apply Vw.agg | apply Vw.fn | refine Vw.box rfl rfl ?_))
   all_goals simp -implicitDefEqProofs only [go_sem]
   with_reducible refine ind_andM (by kernel_rfl) ?_
   refine finM' [some 0,some 1,some 2,some 3] ?_ rfl rfl
   simp -implicitDefEqProofs only [go_sem]
   all_goals rw [decide_eq_false h]
   all_goals ((repeat' apply And.intro) <;> rfl)
  ·simp -implicitDefEqProofs only [go_sem]
   with_reducible refine ind_andM (by kernel_rfl) ?_
   refine finM' [some 0,some 1,some 2,some 3] ?_ rfl rfl
   simp -implicitDefEqProofs only [go_sem]
   all_goals rw [decide_eq_false h]
   all_goals ((repeat' apply And.intro) <;> rfl)
theorem c_pairs2 (hsub:∀ t ∈ nums,t ∈ terms) (hc:c.length = terms.length) (h4:nums.length ≤ 4):C E.P 95 [.ptr 5 0,.fn 96 [.ptr 0 0,.ptr 1 0]] [some (.box [lv (rowsN (links nums (eqsOf lits)))]),some (.box [.fn 93 [.ptr 2 0,.ptr 3 0]]),some (.box [.ptr 4 0]),some (.box [.ptr 5 0]),some (.box [lv (rowsT terms),lv (rowsN c),lv (rowsStep steps)]),some (.box (pvs (cDec s terms nums)))] (Eq2 (.tup [iv (((firstPair nums.length (openP true terms nums c lits)).getD (0,0)).1:Nat),iv (((firstPair nums.length (openP true terms nums c lits)).getD (0,0)).2:Nat),bv (firstPair nums.length (openP true terms nums c lits)).isSome]) [some (.box [lv (rowsN (links nums (eqsOf lits)))]),some (.box [.fn 93 [.ptr 2 0,.ptr 3 0]]),some (.box [.ptr 4 0]),some (.box [.ptr 5 0]),some (.box [lv (rowsT terms),lv (rowsN c),lv (rowsStep steps)]),some (.box (pvs (cDec s terms nums)))]):=by
 have hll:(links nums (eqsOf lits)).length = nums.length:=links_len _ _
 obtain ⟨fp,hfp⟩:∃ f,firstPair nums.length (openP true terms nums c lits) = f:=⟨_,rfl⟩
 rw [hfp]
 have hLB:=LB_eq
 refine C_goS (nt:=35) (rs:=[.tmp 4,.tmp 5,.tmp 6]) hm Tryz.func95 rfl rfl rfl rfl rfl (fun hl he=>?_)
 simp -implicitDefEqProofs only [go_sem] at hl ⊢
 refine loop_go1 hm (fun (i:Nat)=> i ≤ nums.length ∧ fp = (earlyPairs i nums.length).find? (fun q=>openP true terms nums c lits q.1 q.2)) (fun (i:Nat)=> ⟨mkS 35 .any [(0,.ptr 5 0),(1,.fn 96 [.ptr 0 0,.ptr 1 0]),(13,iv nums.length),(14,iv i)],[some (.box [lv (rowsN (links nums (eqsOf lits)))]),some (.box [.fn 93 [.ptr 2 0,.ptr 3 0]]),some (.box [.ptr 4 0]),some (.box [.ptr 5 0]),some (.box [lv (rowsT terms),lv (rowsN c),lv (rowsStep steps)]),some (.box (pvs (cDec s terms nums)))]⟩) (fun (i:Nat)=> nums.length - i) (0) ?_ (weakS [some 0,some 1,some 2,some 3,some 4,some 5] ?_ ?_ rfl rfl) ?_
 rotate_left
 ·simp -implicitDefEqProofs only [go_sem]
 ·simp -implicitDefEqProofs only [go_sem]
 rotate_left
 ·exact ⟨Nat.zero_le _,hfp.symm⟩
 ·rintro i ⟨hi,hg⟩
  rcases Classical.em (i < nums.length) with h1 | h1
  ·rw [earlyRest_start h1] at hg
   simp -implicitDefEqProofs only [go_sem,h1]
   repeat (with_reducible apply And.intro; case left=>omega)
   refine loop_go1 hm (fun (k:Nat)=> i < k ∧ k ≤ nums.length ∧ fp = (earlyRest i k nums.length).find? (fun q=>openP true terms nums c lits q.1 q.2)) (fun (k:Nat)=> ⟨mkS 35 .any [(0,.ptr 5 0),(1,.fn 96 [.ptr 0 0,.ptr 1 0]),(7,iv i),(8,iv k),(13,iv nums.length),(14,iv i)],[some (.box [lv (rowsN (links nums (eqsOf lits)))]),some (.box [.fn 93 [.ptr 2 0,.ptr 3 0]]),some (.box [.ptr 4 0]),some (.box [.ptr 5 0]),some (.box [lv (rowsT terms),lv (rowsN c),lv (rowsStep steps)]),some (.box (pvs (cDec s terms nums)))]⟩) (fun (k:Nat)=> nums.length - k) (i + 1) ?_ (weakS [some 0,some 1,some 2,some 3,some 4,some 5] ?_ ?_ rfl rfl) ?_
   rotate_left
   ·simp -implicitDefEqProofs only [go_sem]
   ·simp -implicitDefEqProofs only [go_sem]
   rotate_left
   ·exact ⟨by omega,by omega,hg⟩
   ·rintro k ⟨hik,hk,hg⟩
    rcases Classical.em (k < nums.length) with h2 | h2
    ·have hco:=c_run2 s terms nums c (links nums (eqsOf lits)) steps i k h1 h2 hsub hc hll
     have ga:nums.getD i term0 = nums[i]:=getD_term h1
     have gb:nums.getD k term0 = nums[k]:=getD_term h2
     have eo:openP true terms nums c lits i k = (!decide (cl (links nums (eqsOf lits)) i = cl (links nums (eqsOf lits)) k) && sameCl terms c nums[i] nums[k]):=by rw [openP_trueI,ga,gb]; rfl
     obtain ⟨bb,hbb⟩:∃ b,(!decide (cl (links nums (eqsOf lits)) i = cl (links nums (eqsOf lits)) k) && sameCl terms c nums[i] nums[k]) = b:=⟨_,rfl⟩
     rw [hbb] at eo hco
     rw [earlyRest_step h2,List.find?_cons] at hg
     simp only [eo] at hg
     simp -implicitDefEqProofs only [go_sem,h2]
     refine atOwn [.ptr 0 0,.ptr 1 0] [0,1,2,3,4,5] hco ?_ ?_
     ·simp -implicitDefEqProofs only [go_sem]
      first | rfl | ((repeat' apply And.intro) <;> rfl)
     simp -implicitDefEqProofs only [go_sem]
     cases h3:bb
     ·rw [h3] at hg
      simp -implicitDefEqProofs only [go_sem]
      repeat (with_reducible apply And.intro; case left=>omega)
      refine ⟨k + 1,?_,?_,weakS [some 0,some 1,some 2,some 3,some 4,some 5] ?_ ?_ rfl rfl⟩
      rotate_left
      ·show _ < _
       omega
      ·simp -implicitDefEqProofs only [go_sem]
      ·simp -implicitDefEqProofs only [go_sem]
      exact ⟨by omega,by omega,hg⟩
     ·rw [h3] at hg
      simp only at hg
      simp -implicitDefEqProofs only [go_sem]
      refine finM' [some 0,some 1,some 2,some 3,some 4,some 5] ?_ rfl rfl
      simp -implicitDefEqProofs only [go_sem]
      rw [hg]
      all_goals ((repeat' apply And.intro) <;> rfl)
    ·rw [earlyRest_end (by omega)] at hg
     simp -implicitDefEqProofs only [go_sem,h2]
     repeat (with_reducible apply And.intro; case left=>omega)
     refine ⟨i + 1,?_,?_,weakS [some 0,some 1,some 2,some 3,some 4,some 5] ?_ ?_ rfl rfl⟩
     rotate_left
     ·show _ < _
      omega
     ·simp -implicitDefEqProofs only [go_sem]
     ·simp -implicitDefEqProofs only [go_sem]
     exact ⟨by omega,hg⟩
  ·rw [earlyPairs_end (by omega),List.find?_nil] at hg
   simp -implicitDefEqProofs only [go_sem,h1]
   refine finM' [some 0,some 1,some 2,some 3,some 4,some 5] ?_ rfl rfl
   simp -implicitDefEqProofs only [go_sem]
   rw [hg]
   all_goals ((repeat' apply And.intro) <;> rfl)
theorem c_pairs3 (hnt:∀ t ∈ nums,isTerm t = true) (h4:nums.length ≤ 4):C E.P 95 [.ptr 3 0,.fn 100 [.ptr 0 0,.ptr 1 0,.ptr 2 0]] [some (.box [lv (rowsN (links nums (eqsOf lits)))]),some (.box [.ptr 3 0]),some (.box [lv (rowsLit lits)]),some (.box (pvs (cDec s terms nums)))] (Eq2 (.tup [iv (((firstPair nums.length (openP false terms nums c lits)).getD (0,0)).1:Nat),iv (((firstPair nums.length (openP false terms nums c lits)).getD (0,0)).2:Nat),bv (firstPair nums.length (openP false terms nums c lits)).isSome]) [some (.box [lv (rowsN (links nums (eqsOf lits)))]),some (.box [.ptr 3 0]),some (.box [lv (rowsLit lits)]),some (.box (pvs (cDec s terms nums)))]):=by
 have hll:(links nums (eqsOf lits)).length = nums.length:=links_len _ _
 obtain ⟨fp,hfp⟩:∃ f,firstPair nums.length (openP false terms nums c lits) = f:=⟨_,rfl⟩
 rw [hfp]
 have hLB:=LB_eq
 refine C_goS (nt:=35) (rs:=[.tmp 4,.tmp 5,.tmp 6]) hm Tryz.func95 rfl rfl rfl rfl rfl (fun hl he=>?_)
 simp -implicitDefEqProofs only [go_sem] at hl ⊢
 refine loop_go1 hm (fun (i:Nat)=> i ≤ nums.length ∧ fp = (earlyPairs i nums.length).find? (fun q=>openP false terms nums c lits q.1 q.2)) (fun (i:Nat)=> ⟨mkS 35 .any [(0,.ptr 3 0),(1,.fn 100 [.ptr 0 0,.ptr 1 0,.ptr 2 0]),(13,iv nums.length),(14,iv i)],[some (.box [lv (rowsN (links nums (eqsOf lits)))]),some (.box [.ptr 3 0]),some (.box [lv (rowsLit lits)]),some (.box (pvs (cDec s terms nums)))]⟩) (fun (i:Nat)=> nums.length - i) (0) ?_ (weakS [some 0,some 1,some 2,some 3] ?_ ?_ rfl rfl) ?_
 rotate_left
 ·simp -implicitDefEqProofs only [go_sem]
 ·simp -implicitDefEqProofs only [go_sem]
 rotate_left
 ·exact ⟨Nat.zero_le _,hfp.symm⟩
 ·rintro i ⟨hi,hg⟩
  rcases Classical.em (i < nums.length) with h1 | h1
  ·rw [earlyRest_start h1] at hg
   simp -implicitDefEqProofs only [go_sem,h1]
   repeat (with_reducible apply And.intro; case left=>omega)
   refine loop_go1 hm (fun (k:Nat)=> i < k ∧ k ≤ nums.length ∧ fp = (earlyRest i k nums.length).find? (fun q=>openP false terms nums c lits q.1 q.2)) (fun (k:Nat)=> ⟨mkS 35 .any [(0,.ptr 3 0),(1,.fn 100 [.ptr 0 0,.ptr 1 0,.ptr 2 0]),(7,iv i),(8,iv k),(13,iv nums.length),(14,iv i)],[some (.box [lv (rowsN (links nums (eqsOf lits)))]),some (.box [.ptr 3 0]),some (.box [lv (rowsLit lits)]),some (.box (pvs (cDec s terms nums)))]⟩) (fun (k:Nat)=> nums.length - k) (i + 1) ?_ (weakS [some 0,some 1,some 2,some 3] ?_ ?_ rfl rfl) ?_
   rotate_left
   ·simp -implicitDefEqProofs only [go_sem]
   ·simp -implicitDefEqProofs only [go_sem]
   rotate_left
   ·exact ⟨by omega,by omega,hg⟩
   ·rintro k ⟨hik,hk,hg⟩
    rcases Classical.em (k < nums.length) with h2 | h2
    ·have hco:=c_run3 s terms nums (links nums (eqsOf lits)) lits i k h1 h2 hnt hll
     have ga:nums.getD i term0 = nums[i]:=getD_term h1
     have gb:nums.getD k term0 = nums[k]:=getD_term h2
     have eo:openP false terms nums c lits i k = (!decide (cl (links nums (eqsOf lits)) i = cl (links nums (eqsOf lits)) k) && (!states nums lits i k && !states nums lits k i)):=by rw [openP_falseI]; rfl
     obtain ⟨bb,hbb⟩:∃ b,(!decide (cl (links nums (eqsOf lits)) i = cl (links nums (eqsOf lits)) k) && (!states nums lits i k && !states nums lits k i)) = b:=⟨_,rfl⟩
     rw [hbb] at eo hco
     rw [earlyRest_step h2,List.find?_cons] at hg
     simp only [eo] at hg
     simp -implicitDefEqProofs only [go_sem,h2]
     refine atOwn [.ptr 0 0,.ptr 1 0,.ptr 2 0] [0,1,2,3] hco ?_ ?_
     ·simp -implicitDefEqProofs only [go_sem]
      first | rfl | ((repeat' apply And.intro) <;> rfl)
     simp -implicitDefEqProofs only [go_sem]
     cases h3:bb
     ·rw [h3] at hg
      simp -implicitDefEqProofs only [go_sem]
      repeat (with_reducible apply And.intro; case left=>omega)
      refine ⟨k + 1,?_,?_,weakS [some 0,some 1,some 2,some 3] ?_ ?_ rfl rfl⟩
      rotate_left
      ·show _ < _
       omega
      ·simp -implicitDefEqProofs only [go_sem]
      ·simp -implicitDefEqProofs only [go_sem]
      exact ⟨by omega,by omega,hg⟩
     ·rw [h3] at hg
      simp only at hg
      simp -implicitDefEqProofs only [go_sem]
      refine finM' [some 0,some 1,some 2,some 3] ?_ rfl rfl
      simp -implicitDefEqProofs only [go_sem]
      rw [hg]
      all_goals ((repeat' apply And.intro) <;> rfl)
    ·rw [earlyRest_end (by omega)] at hg
     simp -implicitDefEqProofs only [go_sem,h2]
     repeat (with_reducible apply And.intro; case left=>omega)
     refine ⟨i + 1,?_,?_,weakS [some 0,some 1,some 2,some 3] ?_ ?_ rfl rfl⟩
     rotate_left
     ·show _ < _
      omega
     ·simp -implicitDefEqProofs only [go_sem]
     ·simp -implicitDefEqProofs only [go_sem]
     exact ⟨by omega,hg⟩
  ·rw [earlyPairs_end (by omega),List.find?_nil] at hg
   simp -implicitDefEqProofs only [go_sem,h1]
   refine finM' [some 0,some 1,some 2,some 3] ?_ rfl rfl
   simp -implicitDefEqProofs only [go_sem]
   rw [hg]
   all_goals ((repeat' apply And.intro) <;> rfl)
end
end Go.Proofs.YtpidddienjoleaaGreat
