/-
  The reference: the walks of stacks that are drawn. A step towards the laws.
-/
import Derived.Test.YtdikjlldidjioaaGreatKAyc
import Derived.Test.YtdikjlldidjioaaGreatKAu
import Derived.Test.YtdikjlldidjioaaGreatKAEi
set_option linter.unusedVariables false
set_option linter.unusedSimpArgs false
namespace Go.Proofs.YtdikjlldidjioaaGreat
open Go.Eng Go.Mod
open Int renaming reduceEq → Z1,reduceLT → Z2,reduceLE → Z3,reduceToNat → Z4
set_option maxRecDepth 100000
set_option maxHeartbeats 400000
theorem c_spec_StackNew (s:Sig) (hb9:ctL ctSym s.syms ≤ 8000000):C E.P 8 [av (cSig s)] [] (Eq2 (av (cStack (stackNew s))) []):=by
 have hLB:=LB_eq
 refine C_goW (nt:=12) (rs:=[.cell 2 29]) Tryz.func8 rfl rfl rfl rfl rfl (fun hl he=>?_)
 simp -implicitDefEqProofs only [go_sem,Z1,Z2,Z3,Z4] at hl ⊢
 refine W_of hm ?_
 try simp -implicitDefEqProofs only [go_sem,Z1,Z2,Z3,Z4]
 try (with_reducible refine ind_andM (by kernel_rfl) ?_)
 refine atCall [] (c_spec_SigOk s) ?_ ?_ <;> simp -implicitDefEqProofs only [go_sem,Z1,Z2,Z3,Z4]
 try (with_reducible refine ind_andM (by kernel_rfl) ?_)
 cases hok:sigOk s
 ·have e:stackNew s = ⟨⟨[]⟩,[]⟩:=by simp [stackNew,hok]
  try simp -implicitDefEqProofs only [go_sem,Z1,Z2,Z3,Z4]
  try (with_reducible refine ind_andM (by kernel_rfl) ?_)
  refine FinW_of ?_
  refine fin1' ?_
  simp -implicitDefEqProofs only [go_sem,Z1,Z2,Z3,Z4]
  rw [e]
  exact ⟨rfl,rfl⟩
 ·have e:stackNew s = ⟨s,[[]]⟩:=by simp [stackNew,hok]
  try simp -implicitDefEqProofs only [go_sem,Z1,Z2,Z3,Z4]
  try (with_reducible refine ind_andM (by kernel_rfl) ?_)
  refine atCall [] (c_spec_l14Sig s hb9) ?_ ?_ <;> simp -implicitDefEqProofs only [go_sem,Z1,Z2,Z3,Z4]
  try (with_reducible refine ind_andM (by kernel_rfl) ?_)
  repeat (first | with_reducible refine ind_andM (by kernel_rfl) ?_ | (with_reducible apply And.intro; case left=>first | omega | assumption | exact ⟨rowsT_all _,by omega⟩ | exact ⟨rowsI_all _,by omega⟩ | exact ⟨rowsLit_all _,by omega⟩ | exact ⟨rowsLin_all _,by omega⟩ | exact ⟨rowsEq_all _,by omega⟩ | rfl | (simp [*]; done) | (simp; omega) | exact ⟨rowsRat_all _,by omega⟩ | exact ⟨rowsAtom_all _,by omega⟩ | exact ⟨rowsB_all _,by omega⟩ | exact ⟨rowsForm_all _,by omega⟩ | exact ⟨rowsII_all _,by omega⟩))
  refine ⟨_,Wk0.weak (put_row 3 0 _ rfl (by decide) (show rwT _ 0 = [T.ref (1 + 1)] from rfl)),?_⟩
  simp -implicitDefEqProofs only [go_sem,Z1,Z2,Z3,Z4]
  refine finM' [] ?_ rfl rfl
  simp -implicitDefEqProofs only [go_sem,Z1,Z2,Z3,Z4]
  rw [e]
  exact ⟨rfl,_,rfl,rfl⟩
theorem rowsFF_snoc1 (l:List (List Mod.Form)):rowsFF (l ++ [[]]) = rowsFF l ++ [[.lst []]]:=by
 simp only [rowsFF,List.map_append,List.map_cons,List.map_nil]
 rfl
theorem dT_more (l:List (List Mod.Form)) {r:List T}:frzRows ((dT l ++ [r]).set l.length [.own 50 (lift [])]) = some (rowsFF (l ++ [[]])):=by
 rw [set_endn (dT_len l),frz_app (dT_frz l) (show frzRows [[.own 50 (lift [])]] = some [[.lst []]] from rfl),rowsFF_snoc1]
theorem c_spec_StackPush (s:Stack) (hb9:ctStack s ≤ 8000000):C E.P 62 [av (cStack s)] [] (Eq2 (.tup [av (cStack (stackPush s).1),bv (stackPush s).2]) []):=by
 have hfl:s.levels.flatten.length ≤ 8000000:=by
  have:=flat_len s.levels
  rw [ctStack] at hb9
  omega
 have hLB:=LB_eq
 refine C_goW (nt:=23) (rs:=[.cell 2 29,.tmp 3]) Tryz.func62 rfl rfl rfl rfl rfl (fun hl he=>?_)
 simp -implicitDefEqProofs only [go_sem,Z1,Z2,Z3,Z4] at hl ⊢
 refine W_of hm ?_
 try simp -implicitDefEqProofs only [go_sem,Z1,Z2,Z3,Z4]
 try (with_reducible refine ind_andM (by kernel_rfl) ?_)
 refine atCall [] (c_spec_StackOk s hfl) ?_ ?_ <;> simp -implicitDefEqProofs only [go_sem,Z1,Z2,Z3,Z4]
 try (with_reducible refine ind_andM (by kernel_rfl) ?_)
 cases hok:stackOk s
 ·have e:stackPush s = (⟨⟨[]⟩,[]⟩,false):=by simp [stackPush,hok]
  try simp -implicitDefEqProofs only [go_sem,Z1,Z2,Z3,Z4]
  try (with_reducible refine ind_andM (by kernel_rfl) ?_)
  refine FinW_of ?_
  refine fin1' ?_
  simp -implicitDefEqProofs only [go_sem,Z1,Z2,Z3,Z4]
  rw [e]
  exact ⟨⟨rfl,rfl⟩,rfl⟩
 ·have hlen:=stackOk_len hok
  try simp -implicitDefEqProofs only [go_sem,Z1,Z2,Z3,Z4]
  try (with_reducible refine ind_andM (by kernel_rfl) ?_)
  refine atOwn [] [2] (c_spec_l14Copy_T s hb9 (by omega)) ?_ ?_ <;> simp -implicitDefEqProofs only [go_sem,Z1,Z2,Z3,Z4]
  try (with_reducible refine ind_andM (by kernel_rfl) ?_)
  rcases Classical.em ((4:Int) ≤ (s.levels.length:Int)) with h2 | h2
  ·have e:stackPush s = (s,false):=by rw [stackPush,if_pos hok,if_pos (by omega)]
   try simp -implicitDefEqProofs only [go_sem,Z1,Z2,Z3,Z4,h2]
   try (with_reducible refine ind_andM (by kernel_rfl) ?_)
   refine FinW_of ?_
   refine fin1' ?_
   simp -implicitDefEqProofs only [go_sem,Z1,Z2,Z3,Z4]
   rw [e]
   exact ⟨⟨rfl,_,rfl,rfl⟩,rfl⟩
  ·have e:stackPush s = (⟨s.sig,s.levels ++ [[]]⟩,true):=by rw [stackPush,if_pos hok,if_neg (by omega)]
   try simp -implicitDefEqProofs only [go_sem,Z1,Z2,Z3,Z4,h2]
   try (with_reducible refine ind_andM (by kernel_rfl) ?_)
   repeat (first | with_reducible refine ind_andM (by kernel_rfl) ?_ | (with_reducible apply And.intro; case left=>first | omega | assumption | exact ⟨rowsT_all _,by omega⟩ | exact ⟨rowsI_all _,by omega⟩ | exact ⟨rowsLit_all _,by omega⟩ | exact ⟨rowsLin_all _,by omega⟩ | exact ⟨rowsEq_all _,by omega⟩ | rfl | (simp [*]; done) | (simp; omega) | exact ⟨rowsRat_all _,by omega⟩ | exact ⟨rowsAtom_all _,by omega⟩ | exact ⟨rowsB_all _,by omega⟩ | exact ⟨rowsForm_all _,by omega⟩ | exact ⟨rowsII_all _,by omega⟩))
   refine ⟨_,Wk0.weak (put_row 6 s.levels.length _ rfl (by rw [List.length_append,dT_len]; simp) (rwT_endn (dT_len _))),?_⟩
   simp -implicitDefEqProofs only [go_sem,Z1,Z2,Z3,Z4]
   refine finM' [] ?_ rfl rfl
   simp -implicitDefEqProofs only [go_sem,Z1,Z2,Z3,Z4]
   rw [e]
   exact ⟨⟨rfl,_,dT_more s.levels,rfl⟩,rfl⟩
theorem c_spec_l14Some (b:List Int) (hb:OkB b) (p:Int) (h1:0 ≤ p) (h2:p ≤ 600000000):C E.P 39 [.ptr 0 0] [some (rdE b p)] (Eq2 (.tup [av (cStack (stkSome b p).1),lv (rowsAtom (stkSome b p).2.1)]) [some (rdE b (stkSome b p).2.2)]):=by
 have hs:SigFair (sigS b p).1:=baseS_fair _
 have hsp:(sigS b p).2 = p + 1:=rfl
 have hT:=toldS_b hb hs (p:=p + 1) (by omega)
 have hw:=toldS_wf (b:=b) (s:=(sigS b p).1) (p:=p + 1)
 have cT:=c_spec_l9Told b hb (sigS b p).1 hs (p + 1) (by omega) (by omega)
 have c1:=c_spec_l4Sig b p hb h1 (by omega)
 have hN:=new_ct hs
 have hct:=fair_ct hs
 obtain ⟨y,e0⟩:∃ y,stkSome b p = y:=⟨_,rfl⟩
 have ee:=e0
 unfold stkSome at ee
 simp only at ee
 obtain ⟨n,en,hn⟩:=numS_le hb (p:=(toldS b (sigS b p).1 (p + 1)).2) (by omega)
 rw [en,Int.toNat_natCast] at ee
 generalize toldS b (sigS b p).1 (p + 1) = a at ee hT cT en hw
 have hF:=stks_b hb hw n (stackNew (sigS b p).1) (a.2 + 1) (by omega)
 obtain ⟨r,hr⟩:∃ r,iterS (stkStep b a.1) n (stackNew (sigS b p).1) (a.2 + 1) = r:=⟨_,rfl⟩
 rw [hr] at ee hF
 generalize (sigS b p).1 = s at ee hs cT c1 hN hct hF hr
 rw [e0,← ee]
 have hLB:=LB_eq
 refine C_goS (nt:=59) (rs:=[.cell 2 29,.tmp 3]) hm Tryz.func39 rfl rfl rfl rfl rfl (fun hl he=>?_)
 simp -implicitDefEqProofs only [go_sem,Z1,Z2,Z3,Z4] at hl ⊢
 refine atOwn [] [0] c1 ?_ ?_ <;> simp -implicitDefEqProofs only [go_sem,Z1,Z2,Z3,Z4,hsp]
 try (with_reducible refine ind_andM (by kernel_rfl) ?_)
 refine atOwn [] [0] cT ?_ ?_ <;> simp -implicitDefEqProofs only [go_sem,Z1,Z2,Z3,Z4]
 try (with_reducible refine ind_andM (by kernel_rfl) ?_)
 refine atCall [] (c_spec_StackNew s (by omega)) ?_ ?_ <;> simp -implicitDefEqProofs only [go_sem,Z1,Z2,Z3,Z4]
 try (with_reducible refine ind_andM (by kernel_rfl) ?_)
 refine atOwn [] [0] (c_num b a.2 [3,4,6,2,0] hb (by omega) (by omega) (by simp) (by simp)) ?_ ?_ <;> simp -implicitDefEqProofs only [go_sem,Z1,Z2,Z3,Z4,en]
 try (with_reducible refine ind_andM (by kernel_rfl) ?_)
 refine loop_go3 hm (fun (j:Nat) (q:Int) (k:Stack)=> j ≤ n ∧ 0 ≤ q ∧ q ≤ a.2 + 1 + (n - j) * 14 ∧ ctStack k ≤ 28 + (n - j) * 243 ∧ r = iterS (stkStep b a.1) j k q) (fun (j:Nat) (q:Int) (k:Stack)=> ⟨mkS 59 .any [(0,.ptr 0 0),(2,.ptr 1 0),(5,lv (rowsAtom a.1)),(6,.ptr 2 0),(7,iv j)],[some (rdE b q),some (.box [.nilS,.nilS]),some (.box (pvs (cStack k)))]⟩) (fun (j:Nat) (q:Int) (k:Stack)=> j) (n) (a.2 + 1) (stackNew s) ?_ (weakS [some 0,some 1,some 3] ?_ ?_ rfl rfl) ?_
 rotate_left
 ·simp -implicitDefEqProofs only [go_sem,Z1,Z2,Z3,Z4]
  all_goals (first | done | (simp [wks_rfl, *]; done) | (simp [wks_rfl]; done) | (simp; omega) | skip)
 ·simp -implicitDefEqProofs only [go_sem,Z1,Z2,Z3,Z4]
  all_goals (first | done | (simp [wks_rfl, *]; done) | (simp [wks_rfl]; done) | (simp; omega) | skip)
 rotate_left
 ·exact ⟨Nat.le_refl _,by omega,by omega,by omega,hr.symm⟩
 ·rintro j q k ⟨hj,hq1,hq2,hol,hg⟩
  rcases Classical.em ((0:Int) < (j:Int)) with h3 | h3
  ·obtain ⟨j,rfl⟩:∃ j',j = j' + 1:=⟨j - 1,by omega⟩
   have hjs:((j:Int) + 1 - 1) = (j:Int):=by omega
   have h3:(0:Int) < (j:Int) + 1:=by omega
   have g1:=stkStep_b hb hw (k:=k) hq1
   rw [iterS] at hg
   obtain ⟨z,ez⟩:∃ z,stkStep b a.1 k q = z:=⟨_,rfl⟩
   have ez2:=ez
   rw [ez] at hg g1
   unfold stkStep at ez
   rcases Classical.em (pickV b q 4 = 0) with c0 | c0
   ·have k0:=eq_true c0
    rw [if_pos c0] at ez
    subst ez
    simp only at g1 hg
    try simp -implicitDefEqProofs only [go_sem,Z1,Z2,Z3,Z4,h3]
    try (with_reducible refine ind_andM (by kernel_rfl) ?_)
    refine atOwn [] [0] (c_pick b q 4 hb (by omega) (by omega)) ?_ ?_ <;> simp -implicitDefEqProofs only [go_sem,Z1,Z2,Z3,Z4]
    try (with_reducible refine ind_andM (by kernel_rfl) ?_)
    try simp -implicitDefEqProofs only [go_sem,Z1,Z2,Z3,Z4,k0]
    try (with_reducible refine ind_andM (by kernel_rfl) ?_)
    refine atCall [] (c_spec_StackPush k (by omega)) ?_ ?_ <;> simp -implicitDefEqProofs only [go_sem,Z1,Z2,Z3,Z4]
    try (with_reducible refine ind_andM (by kernel_rfl) ?_)
    cases hok:(stackPush k).2
    ·have ek:onlyIf (stackPush k) k = k:=by simp [onlyIf,hok]
     rw [ek] at g1 hg
     try simp -implicitDefEqProofs only [go_sem,Z1,Z2,Z3,Z4,hjs]
     try (with_reducible refine ind_andM (by kernel_rfl) ?_)
     repeat (first | with_reducible refine ind_andM (by kernel_rfl) ?_ | (with_reducible apply And.intro; case left=>first | omega | assumption | exact ⟨rowsT_all _,by omega⟩ | exact ⟨rowsI_all _,by omega⟩ | exact ⟨rowsLit_all _,by omega⟩ | exact ⟨rowsLin_all _,by omega⟩ | exact ⟨rowsEq_all _,by omega⟩ | rfl | (simp [*]; done) | (simp; omega) | exact ⟨rowsRat_all _,by omega⟩ | exact ⟨rowsAtom_all _,by omega⟩ | exact ⟨rowsB_all _,by omega⟩ | exact ⟨rowsForm_all _,by omega⟩ | exact ⟨rowsII_all _,by omega⟩))
     refine ⟨j,q + 1,k,?_,?_,weakS [some 0,some 1,some 2] ?_ ?_ rfl rfl⟩
     rotate_left
     ·show _ < _
      omega
     ·simp -implicitDefEqProofs only [go_sem,Z1,Z2,Z3,Z4]
      all_goals (first | done | (simp [wks_rfl, *]; done) | (simp [wks_rfl]; done) | (simp; omega) | skip)
     ·simp -implicitDefEqProofs only [go_sem,Z1,Z2,Z3,Z4]
      all_goals (first | done | (simp [wks_rfl, *]; done) | (simp [wks_rfl]; done) | (simp; omega) | skip)
     exact ⟨by omega,by omega,by omega,by omega,hg⟩
    ·have ek:onlyIf (stackPush k) k = (stackPush k).1:=by simp [onlyIf,hok]
     rw [ek] at g1 hg
     try simp -implicitDefEqProofs only [go_sem,Z1,Z2,Z3,Z4,hjs]
     try (with_reducible refine ind_andM (by kernel_rfl) ?_)
     repeat (first | with_reducible refine ind_andM (by kernel_rfl) ?_ | (with_reducible apply And.intro; case left=>first | omega | assumption | exact ⟨rowsT_all _,by omega⟩ | exact ⟨rowsI_all _,by omega⟩ | exact ⟨rowsLit_all _,by omega⟩ | exact ⟨rowsLin_all _,by omega⟩ | exact ⟨rowsEq_all _,by omega⟩ | rfl | (simp [*]; done) | (simp; omega) | exact ⟨rowsRat_all _,by omega⟩ | exact ⟨rowsAtom_all _,by omega⟩ | exact ⟨rowsB_all _,by omega⟩ | exact ⟨rowsForm_all _,by omega⟩ | exact ⟨rowsII_all _,by omega⟩))
     refine ⟨j,q + 1,(stackPush k).1,?_,?_,weakS [some 0,some 1,some 2] ?_ ?_ rfl rfl⟩
     rotate_left
     ·show _ < _
      omega
     ·simp -implicitDefEqProofs only [go_sem,Z1,Z2,Z3,Z4]
      all_goals (first | done | (simp [wks_rfl, *]; done) | (simp [wks_rfl]; done) | (simp; omega) | skip)
     ·simp -implicitDefEqProofs only [go_sem,Z1,Z2,Z3,Z4]
      all_goals (first | done | (simp [wks_rfl, *]; done) | (simp [wks_rfl]; done) | (simp; omega) | skip)
     exact ⟨by omega,by omega,by omega,by omega,hg⟩
   rw [if_neg c0] at ez
   rcases Classical.em (pickV b q 4 = 1) with c1 | c1
   ·have k1:=eq_true c1
    have q2:q + 1 + 1 = q + 2:=by omega
    rw [if_pos c1] at ez
    rcases Classical.em (pickV b (q + 1) 2 = 0) with c2 | c2
    ·have k2:=eq_true c2
     rw [if_pos c2] at ez
     subst ez
     simp only at g1 hg
     try simp -implicitDefEqProofs only [go_sem,Z1,Z2,Z3,Z4,h3]
     try (with_reducible refine ind_andM (by kernel_rfl) ?_)
     refine atOwn [] [0] (c_pick b q 4 hb (by omega) (by omega)) ?_ ?_ <;> simp -implicitDefEqProofs only [go_sem,Z1,Z2,Z3,Z4]
     try (with_reducible refine ind_andM (by kernel_rfl) ?_)
     try simp -implicitDefEqProofs only [go_sem,Z1,Z2,Z3,Z4,c0,k1]
     try (with_reducible refine ind_andM (by kernel_rfl) ?_)
     refine atOwn [] [0] (c_pick b (q + 1) 2 hb (by omega) (by omega)) ?_ ?_ <;> simp -implicitDefEqProofs only [go_sem,Z1,Z2,Z3,Z4,q2]
     try (with_reducible refine ind_andM (by kernel_rfl) ?_)
     try simp -implicitDefEqProofs only [go_sem,Z1,Z2,Z3,Z4,k2]
     try (with_reducible refine ind_andM (by kernel_rfl) ?_)
     refine atCall [] (c_spec_StackPop k (by omega)) ?_ ?_ <;> simp -implicitDefEqProofs only [go_sem,Z1,Z2,Z3,Z4]
     try (with_reducible refine ind_andM (by kernel_rfl) ?_)
     cases hok:(stackPop k).2
     ·have ek:onlyIf (stackPop k) k = k:=by simp [onlyIf,hok]
      rw [ek] at g1 hg
      try simp -implicitDefEqProofs only [go_sem,Z1,Z2,Z3,Z4,hjs]
      try (with_reducible refine ind_andM (by kernel_rfl) ?_)
      repeat (first | with_reducible refine ind_andM (by kernel_rfl) ?_ | (with_reducible apply And.intro; case left=>first | omega | assumption | exact ⟨rowsT_all _,by omega⟩ | exact ⟨rowsI_all _,by omega⟩ | exact ⟨rowsLit_all _,by omega⟩ | exact ⟨rowsLin_all _,by omega⟩ | exact ⟨rowsEq_all _,by omega⟩ | rfl | (simp [*]; done) | (simp; omega) | exact ⟨rowsRat_all _,by omega⟩ | exact ⟨rowsAtom_all _,by omega⟩ | exact ⟨rowsB_all _,by omega⟩ | exact ⟨rowsForm_all _,by omega⟩ | exact ⟨rowsII_all _,by omega⟩))
      refine ⟨j,q + 2,k,?_,?_,weakS [some 0,some 1,some 2] ?_ ?_ rfl rfl⟩
      rotate_left
      ·show _ < _
       omega
      ·simp -implicitDefEqProofs only [go_sem,Z1,Z2,Z3,Z4]
       all_goals (first | done | (simp [wks_rfl, *]; done) | (simp [wks_rfl]; done) | (simp; omega) | skip)
      ·simp -implicitDefEqProofs only [go_sem,Z1,Z2,Z3,Z4]
       all_goals (first | done | (simp [wks_rfl, *]; done) | (simp [wks_rfl]; done) | (simp; omega) | skip)
      exact ⟨by omega,by omega,by omega,by omega,hg⟩
     ·have ek:onlyIf (stackPop k) k = (stackPop k).1:=by simp [onlyIf,hok]
      rw [ek] at g1 hg
      try simp -implicitDefEqProofs only [go_sem,Z1,Z2,Z3,Z4,hjs]
      try (with_reducible refine ind_andM (by kernel_rfl) ?_)
      repeat (first | with_reducible refine ind_andM (by kernel_rfl) ?_ | (with_reducible apply And.intro; case left=>first | omega | assumption | exact ⟨rowsT_all _,by omega⟩ | exact ⟨rowsI_all _,by omega⟩ | exact ⟨rowsLit_all _,by omega⟩ | exact ⟨rowsLin_all _,by omega⟩ | exact ⟨rowsEq_all _,by omega⟩ | rfl | (simp [*]; done) | (simp; omega) | exact ⟨rowsRat_all _,by omega⟩ | exact ⟨rowsAtom_all _,by omega⟩ | exact ⟨rowsB_all _,by omega⟩ | exact ⟨rowsForm_all _,by omega⟩ | exact ⟨rowsII_all _,by omega⟩))
      refine ⟨j,q + 2,(stackPop k).1,?_,?_,weakS [some 0,some 1,some 2] ?_ ?_ rfl rfl⟩
      rotate_left
      ·show _ < _
       omega
      ·simp -implicitDefEqProofs only [go_sem,Z1,Z2,Z3,Z4]
       all_goals (first | done | (simp [wks_rfl, *]; done) | (simp [wks_rfl]; done) | (simp; omega) | skip)
      ·simp -implicitDefEqProofs only [go_sem,Z1,Z2,Z3,Z4]
       all_goals (first | done | (simp [wks_rfl, *]; done) | (simp [wks_rfl]; done) | (simp; omega) | skip)
      exact ⟨by omega,by omega,by omega,by omega,hg⟩
    ·rw [if_neg c2] at ez
     subst ez
     simp only at g1 hg
     try simp -implicitDefEqProofs only [go_sem,Z1,Z2,Z3,Z4,h3]
     try (with_reducible refine ind_andM (by kernel_rfl) ?_)
     refine atOwn [] [0] (c_pick b q 4 hb (by omega) (by omega)) ?_ ?_ <;> simp -implicitDefEqProofs only [go_sem,Z1,Z2,Z3,Z4]
     try (with_reducible refine ind_andM (by kernel_rfl) ?_)
     try simp -implicitDefEqProofs only [go_sem,Z1,Z2,Z3,Z4,c0,k1]
     try (with_reducible refine ind_andM (by kernel_rfl) ?_)
     refine atOwn [] [0] (c_pick b (q + 1) 2 hb (by omega) (by omega)) ?_ ?_ <;> simp -implicitDefEqProofs only [go_sem,Z1,Z2,Z3,Z4,q2]
     try (with_reducible refine ind_andM (by kernel_rfl) ?_)
     try simp -implicitDefEqProofs only [go_sem,Z1,Z2,Z3,Z4,c2]
     try (with_reducible refine ind_andM (by kernel_rfl) ?_)
     try simp -implicitDefEqProofs only [go_sem,Z1,Z2,Z3,Z4,hjs]
     try (with_reducible refine ind_andM (by kernel_rfl) ?_)
     repeat (first | with_reducible refine ind_andM (by kernel_rfl) ?_ | (with_reducible apply And.intro; case left=>first | omega | assumption | exact ⟨rowsT_all _,by omega⟩ | exact ⟨rowsI_all _,by omega⟩ | exact ⟨rowsLit_all _,by omega⟩ | exact ⟨rowsLin_all _,by omega⟩ | exact ⟨rowsEq_all _,by omega⟩ | rfl | (simp [*]; done) | (simp; omega) | exact ⟨rowsRat_all _,by omega⟩ | exact ⟨rowsAtom_all _,by omega⟩ | exact ⟨rowsB_all _,by omega⟩ | exact ⟨rowsForm_all _,by omega⟩ | exact ⟨rowsII_all _,by omega⟩))
     refine ⟨j,q + 2,k,?_,?_,weakS [some 0,some 1,some 2] ?_ ?_ rfl rfl⟩
     rotate_left
     ·show _ < _
      omega
     ·simp -implicitDefEqProofs only [go_sem,Z1,Z2,Z3,Z4]
      all_goals (first | done | (simp [wks_rfl, *]; done) | (simp [wks_rfl]; done) | (simp; omega) | skip)
     ·simp -implicitDefEqProofs only [go_sem,Z1,Z2,Z3,Z4]
      all_goals (first | done | (simp [wks_rfl, *]; done) | (simp [wks_rfl]; done) | (simp; omega) | skip)
     exact ⟨by omega,by omega,by omega,by omega,hg⟩
   ·rw [if_neg c1] at ez
    obtain ⟨d,ed,d1,d2⟩:∃ d:Nat,numV b (q + 1) [1,2] = d ∧ 1 ≤ d ∧ d ≤ 2:=by
     have hm:=numV_mem hb (p:=q + 1) (l:=[1,2]) (by omega) (by simp)
     simp only [List.mem_cons,List.not_mem_nil,or_false] at hm
     exact ⟨(numV b (q + 1) [1,2]).toNat,by omega,by omega,by omega⟩
    have q2:q + 1 + 1 = q + 2:=by omega
    have t1:=two_pow_le d2
    have t2:(2:Int) ^ 2 = 4:=by decide
    have t3:=anyF_ct hb hw d (q + 2) (by omega) d1
    have t4:81 * 2 ^ d ≤ 81 * 2 ^ 2:=Nat.mul_le_mul_left _ (Nat.pow_le_pow_right (by omega) d2)
    have cA:=c_spec_l9Any b hb a.1 (by omega) (by omega) d (q + 2) d1 (by omega) (by omega)
    simp only [ed,Int.toNat_natCast] at ez
    generalize anyF b a.1 d (q + 2) = f at ez t3 cA
    subst ez
    simp only at g1 hg
    try simp -implicitDefEqProofs only [go_sem,Z1,Z2,Z3,Z4,h3]
    try (with_reducible refine ind_andM (by kernel_rfl) ?_)
    refine atOwn [] [0] (c_pick b q 4 hb (by omega) (by omega)) ?_ ?_ <;> simp -implicitDefEqProofs only [go_sem,Z1,Z2,Z3,Z4]
    try (with_reducible refine ind_andM (by kernel_rfl) ?_)
    try simp -implicitDefEqProofs only [go_sem,Z1,Z2,Z3,Z4,c0,c1]
    try (with_reducible refine ind_andM (by kernel_rfl) ?_)
    refine atOwn [] [0] (c_num b (q + 1) [1,2] hb (by omega) (by omega) (by simp) (by simp)) ?_ ?_ <;> simp -implicitDefEqProofs only [go_sem,Z1,Z2,Z3,Z4,ed,q2]
    try (with_reducible refine ind_andM (by kernel_rfl) ?_)
    refine atOwn [] [0] cA ?_ ?_ <;> simp -implicitDefEqProofs only [go_sem,Z1,Z2,Z3,Z4]
    try (with_reducible refine ind_andM (by kernel_rfl) ?_)
    refine atCall [] (c_spec_StackTell k f.1 (by omega)) ?_ ?_ <;> simp -implicitDefEqProofs only [go_sem,Z1,Z2,Z3,Z4]
    try (with_reducible refine ind_andM (by kernel_rfl) ?_)
    cases hok:(stackTell k f.1).2
    ·have ek:onlyIf (stackTell k f.1) k = k:=by simp [onlyIf,hok]
     rw [ek] at g1 hg
     try simp -implicitDefEqProofs only [go_sem,Z1,Z2,Z3,Z4,hjs]
     try (with_reducible refine ind_andM (by kernel_rfl) ?_)
     repeat (first | with_reducible refine ind_andM (by kernel_rfl) ?_ | (with_reducible apply And.intro; case left=>first | omega | assumption | exact ⟨rowsT_all _,by omega⟩ | exact ⟨rowsI_all _,by omega⟩ | exact ⟨rowsLit_all _,by omega⟩ | exact ⟨rowsLin_all _,by omega⟩ | exact ⟨rowsEq_all _,by omega⟩ | rfl | (simp [*]; done) | (simp; omega) | exact ⟨rowsRat_all _,by omega⟩ | exact ⟨rowsAtom_all _,by omega⟩ | exact ⟨rowsB_all _,by omega⟩ | exact ⟨rowsForm_all _,by omega⟩ | exact ⟨rowsII_all _,by omega⟩))
     refine ⟨j,f.2,k,?_,?_,weakS [some 0,some 1,some 2] ?_ ?_ rfl rfl⟩
     rotate_left
     ·show _ < _
      omega
     ·simp -implicitDefEqProofs only [go_sem,Z1,Z2,Z3,Z4]
      all_goals (first | done | (simp [wks_rfl, *]; done) | (simp [wks_rfl]; done) | (simp; omega) | skip)
     ·simp -implicitDefEqProofs only [go_sem,Z1,Z2,Z3,Z4]
      all_goals (first | done | (simp [wks_rfl, *]; done) | (simp [wks_rfl]; done) | (simp; omega) | skip)
     exact ⟨by omega,by omega,by omega,by omega,hg⟩
    ·have ek:onlyIf (stackTell k f.1) k = (stackTell k f.1).1:=by simp [onlyIf,hok]
     rw [ek] at g1 hg
     try simp -implicitDefEqProofs only [go_sem,Z1,Z2,Z3,Z4,hjs]
     try (with_reducible refine ind_andM (by kernel_rfl) ?_)
     repeat (first | with_reducible refine ind_andM (by kernel_rfl) ?_ | (with_reducible apply And.intro; case left=>first | omega | assumption | exact ⟨rowsT_all _,by omega⟩ | exact ⟨rowsI_all _,by omega⟩ | exact ⟨rowsLit_all _,by omega⟩ | exact ⟨rowsLin_all _,by omega⟩ | exact ⟨rowsEq_all _,by omega⟩ | rfl | (simp [*]; done) | (simp; omega) | exact ⟨rowsRat_all _,by omega⟩ | exact ⟨rowsAtom_all _,by omega⟩ | exact ⟨rowsB_all _,by omega⟩ | exact ⟨rowsForm_all _,by omega⟩ | exact ⟨rowsII_all _,by omega⟩))
     refine ⟨j,f.2,(stackTell k f.1).1,?_,?_,weakS [some 0,some 1,some 2] ?_ ?_ rfl rfl⟩
     rotate_left
     ·show _ < _
      omega
     ·simp -implicitDefEqProofs only [go_sem,Z1,Z2,Z3,Z4]
      all_goals (first | done | (simp [wks_rfl, *]; done) | (simp [wks_rfl]; done) | (simp; omega) | skip)
     ·simp -implicitDefEqProofs only [go_sem,Z1,Z2,Z3,Z4]
      all_goals (first | done | (simp [wks_rfl, *]; done) | (simp [wks_rfl]; done) | (simp; omega) | skip)
     exact ⟨by omega,by omega,by omega,by omega,hg⟩
  ·obtain rfl:j = 0:=by omega
   rw [iterS] at hg
   subst hg
   simp only at hF ⊢
   try simp -implicitDefEqProofs only [go_sem,Z1,Z2,Z3,Z4,h3]
   try (with_reducible refine ind_andM (by kernel_rfl) ?_)
   refine finM' [some 0] ?_ rfl rfl
   simp -implicitDefEqProofs only [go_sem,Z1,Z2,Z3,Z4]
   repeat' apply And.intro
   all_goals rfl
theorem set_frzD:∀ (l:List (List Mod.Form)) (i:Nat) (_:i < l.length) (x:List T) (y:List Mod.Form),frzCells x = some [.lst (rowsForm y)] → frzRows ((dT l).set i x) = some (rowsFF (l.set i y))
 | [],i,hi,x,y,hx=>by simp at hi
 | a :: l,0,hi,x,y,hx=>by
   have:=dT_frz l
   simp only [dT,List.map_cons,List.set_cons_zero] at this ⊢
   simp [frzRows,hx,this,rowsFF]
 | a :: l,i + 1,hi,x,y,hx=>by
   have:=set_frzD l i (by simpa using hi) x y hx
   simp only [dT,List.map_cons,List.set_cons_succ] at this ⊢
   simp [frzRows,frzCells,T.frz,cDT,frzRows_lift,this,rowsFF]
theorem c_spec_l14Bent (b:List Int) (hb:OkB b) (k:Stack) (hk:SigFair k.sig) (hc:ctStack k ≤ 3000) (hl7:k.levels.length ≤ 7) (p:Int) (h1:0 ≤ p) (h2:p ≤ 600000000):C E.P 44 [.ptr 0 0,av (cStack k)] [some (rdE b p)] (Eq2 (av (cStack (stkBent b k p).1)) [some (rdE b (stkBent b k p).2)]):=by
 have hll:k.levels.length ≤ 8000000:=by omega
 obtain ⟨y,e0⟩:∃ y,stkBent b k p = y:=⟨_,rfl⟩
 have ee:=e0
 unfold stkBent at ee
 rw [e0]
 rcases Classical.em (pickV b p 40 = 0) with c0 | c0
 ·have k0:=eq_true c0
  rw [if_pos c0] at ee
  rw [← ee]
  have hLB:=LB_eq
  refine C_goS (nt:=64) (rs:=[.cell 4 29]) hm Tryz.func44 rfl rfl rfl rfl rfl (fun hl he=>?_)
  simp -implicitDefEqProofs only [go_sem,Z1,Z2,Z3,Z4] at hl ⊢
  refine atCall [] (c_spec_l14Copy k (by omega) hll) ?_ ?_ <;> simp -implicitDefEqProofs only [go_sem,Z1,Z2,Z3,Z4]
  try (with_reducible refine ind_andM (by kernel_rfl) ?_)
  refine atOwn [] [0] (c_pick b p 40 hb (by omega) (by omega)) ?_ ?_ <;> simp -implicitDefEqProofs only [go_sem,Z1,Z2,Z3,Z4]
  try (with_reducible refine ind_andM (by kernel_rfl) ?_)
  try simp -implicitDefEqProofs only [go_sem,Z1,Z2,Z3,Z4,k0]
  try (with_reducible refine ind_andM (by kernel_rfl) ?_)
  refine finM' [some 0] ?_ rfl rfl
  simp -implicitDefEqProofs only [go_sem,Z1,Z2,Z3,Z4]
  repeat' apply And.intro
  all_goals rfl
 rw [if_neg c0] at ee
 rcases Classical.em (pickV b p 40 = 1) with c1 | c1
 ·have k1:=eq_true c1
  rw [if_pos c1] at ee
  rw [← ee]
  have hLB:=LB_eq
  refine C_goW (nt:=64) (rs:=[.cell 4 29]) Tryz.func44 rfl rfl rfl rfl rfl (fun hl he=>?_)
  simp -implicitDefEqProofs only [go_sem,Z1,Z2,Z3,Z4] at hl ⊢
  refine W_of hm ?_
  try simp -implicitDefEqProofs only [go_sem,Z1,Z2,Z3,Z4]
  try (with_reducible refine ind_andM (by kernel_rfl) ?_)
  refine atOwn [] [3] (c_spec_l14Copy_T k (by omega) hll) ?_ ?_ <;> simp -implicitDefEqProofs only [go_sem,Z1,Z2,Z3,Z4]
  try (with_reducible refine ind_andM (by kernel_rfl) ?_)
  refine atOwn [] [0] (c_pick b p 40 hb (by omega) (by omega)) ?_ ?_ <;> simp -implicitDefEqProofs only [go_sem,Z1,Z2,Z3,Z4]
  try (with_reducible refine ind_andM (by kernel_rfl) ?_)
  try simp -implicitDefEqProofs only [go_sem,Z1,Z2,Z3,Z4,c0,k1]
  try (with_reducible refine ind_andM (by kernel_rfl) ?_)
  refine loop_go2 hm (fun (i:Nat) (l:List (List Mod.Form))=> l = k.levels ++ List.replicate i [] ∧ i ≤ 5 - k.levels.length) (fun (i:Nat) (l:List (List Mod.Form))=> ⟨mkS 64 .any [(4,.ptr 1 0),(5,.ptr 2 0)],[some (rdE b (p + 1)),some (.box [.nilS,.nilS]),some (.box [lv (rowsSym k.sig.syms),.acc 3]),some (.tre 36 (dT l))]⟩) (fun (i:Nat) (l:List (List Mod.Form))=> 5 - i) (0) (k.levels) ?_ (weakS [some 0,some 2,some 4,some 3] ?_ ?_ rfl rfl) ?_
  rotate_left
  ·simp -implicitDefEqProofs only [go_sem,Z1,Z2,Z3,Z4]
   all_goals (first | done | (rfl) | (simp [wks_rfl, *]; done) | (simp [wks_rfl]; done) | (simp; omega) | skip)
  ·simp -implicitDefEqProofs only [go_sem,Z1,Z2,Z3,Z4]
   all_goals (first | done | (rfl) | (simp [wks_rfl, *]; done) | (simp [wks_rfl]; done) | (simp; omega) | skip)
  rotate_left
  ·exact ⟨by simp,by omega⟩
  ·rintro i l ⟨hl8,hi⟩
   have hll8:l.length = k.levels.length + i:=by rw [hl8]; simp
   rcases Classical.em ((l.length:Int) ≤ 4) with h3 | h3
   ·have hmr:dT l ++ [[.own 50 (lift [])]] = dT (l ++ [[]]):=by
     simp only [dT,List.map_append,List.map_cons,List.map_nil]
     rfl
    have hp:(dT l).length = l.length:=dT_len l
    try simp -implicitDefEqProofs only [go_sem,Z1,Z2,Z3,Z4,h3]
    try (with_reducible refine ind_andM (by kernel_rfl) ?_)
    repeat (first | with_reducible refine ind_andM (by kernel_rfl) ?_ | (with_reducible apply And.intro; case left=>first | omega | assumption | exact ⟨rowsT_all _,by omega⟩ | exact ⟨rowsI_all _,by omega⟩ | exact ⟨rowsLit_all _,by omega⟩ | exact ⟨rowsLin_all _,by omega⟩ | exact ⟨rowsEq_all _,by omega⟩ | rfl | (simp [*]; done) | (simp; omega) | exact ⟨rowsRat_all _,by omega⟩ | exact ⟨rowsAtom_all _,by omega⟩ | exact ⟨rowsB_all _,by omega⟩ | exact ⟨rowsForm_all _,by omega⟩ | exact ⟨rowsII_all _,by omega⟩))
    refine ⟨i + 1,l ++ [[]],?_,?_,weak_put 6 l.length _ rfl (by rw [List.length_append,dT_len]; simp) (rwT_endn hp) ?_⟩
    rotate_left
    ·show _ < _
     omega
    ·simp -implicitDefEqProofs only [go_sem,Z1,Z2,Z3,Z4]
     refine weakS [some 0,some 1,some 2,some 6] ?_ ?_ rfl rfl
     ·simp -implicitDefEqProofs only [go_sem,Z1,Z2,Z3,Z4]
      all_goals (first | done | (rw [set_endn hp]; exact ⟨hmr,(congrArg (fun z=>(frzRows z).isSome) hmr).trans (dT_ok _)⟩) | (simp [wks_rfl, *]; done) | (simp [wks_rfl]; done) | (simp; omega) | skip)
     ·simp -implicitDefEqProofs only [go_sem,Z1,Z2,Z3,Z4]
      all_goals (first | done | (rw [set_endn hp]; exact ⟨hmr,(congrArg (fun z=>(frzRows z).isSome) hmr).trans (dT_ok _)⟩) | (simp [wks_rfl, *]; done) | (simp [wks_rfl]; done) | (simp; omega) | skip)
    exact ⟨by rw [hl8,List.append_assoc,← List.replicate_succ'],by omega⟩
   ·have e5:i = 5 - k.levels.length:=by omega
    try simp -implicitDefEqProofs only [go_sem,Z1,Z2,Z3,Z4,h3]
    try (with_reducible refine ind_andM (by kernel_rfl) ?_)
    refine FinW_of ?_
    refine finM' [some 0] ?_ rfl rfl
    simp -implicitDefEqProofs only [go_sem,Z1,Z2,Z3,Z4]
    rw [hl8,e5]
    exact ⟨⟨_,rfl,rfl⟩,rfl⟩
 rw [if_neg c1] at ee
 rcases Classical.em (pickV b p 40 = 2) with c2 | c2
 ·have k2:=eq_true c2
  rw [if_pos c2] at ee
  have g1:=bentS_b b k.sig (p + 1)
  have g2:=bentS_small (b:=b) hk (p + 1)
  have cA:=c_spec_l4Bent b hb k.sig (fair_small hk).1 (fair_small hk).2 (p + 1) (by omega) (by omega)
  have cB:=c_spec_l4Bent b hb (bentS b k.sig (p + 1)).1 g2.1 g2.2 (bentS b k.sig (p + 1)).2 (by omega) (by omega)
  rw [← ee]
  have hLB:=LB_eq
  refine C_goS (nt:=64) (rs:=[.cell 4 29]) hm Tryz.func44 rfl rfl rfl rfl rfl (fun hl he=>?_)
  simp -implicitDefEqProofs only [go_sem,Z1,Z2,Z3,Z4] at hl ⊢
  refine atCall [] (c_spec_l14Copy k (by omega) hll) ?_ ?_ <;> simp -implicitDefEqProofs only [go_sem,Z1,Z2,Z3,Z4]
  try (with_reducible refine ind_andM (by kernel_rfl) ?_)
  refine atOwn [] [0] (c_pick b p 40 hb (by omega) (by omega)) ?_ ?_ <;> simp -implicitDefEqProofs only [go_sem,Z1,Z2,Z3,Z4]
  try (with_reducible refine ind_andM (by kernel_rfl) ?_)
  try simp -implicitDefEqProofs only [go_sem,Z1,Z2,Z3,Z4,c0,c1,k2]
  try (with_reducible refine ind_andM (by kernel_rfl) ?_)
  refine atOwn [] [0] cA ?_ ?_ <;> simp -implicitDefEqProofs only [go_sem,Z1,Z2,Z3,Z4]
  try (with_reducible refine ind_andM (by kernel_rfl) ?_)
  refine atOwn [] [0] cB ?_ ?_ <;> simp -implicitDefEqProofs only [go_sem,Z1,Z2,Z3,Z4]
  try (with_reducible refine ind_andM (by kernel_rfl) ?_)
  refine finM' [some 0] ?_ rfl rfl
  simp -implicitDefEqProofs only [go_sem,Z1,Z2,Z3,Z4]
  repeat' apply And.intro
  all_goals rfl
 rw [if_neg c2] at ee
 rcases Classical.em (pickV b p 40 = 3) with c3 | c3
 ·have k3:=eq_true c3
  rw [if_pos c3] at ee
  cases hlv:k.levels with
  | nil=>
    have e0:k.levels.length = 0:=by rw [hlv]; rfl
    rw [hlv] at ee
    rw [← ee]
    have hLB:=LB_eq
    refine C_goS (nt:=64) (rs:=[.cell 4 29]) hm Tryz.func44 rfl rfl rfl rfl rfl (fun hl he=>?_)
    simp -implicitDefEqProofs only [go_sem,Z1,Z2,Z3,Z4] at hl ⊢
    refine atCall [] (c_spec_l14Copy k (by omega) hll) ?_ ?_ <;> simp -implicitDefEqProofs only [go_sem,Z1,Z2,Z3,Z4]
    try (with_reducible refine ind_andM (by kernel_rfl) ?_)
    refine atOwn [] [0] (c_pick b p 40 hb (by omega) (by omega)) ?_ ?_ <;> simp -implicitDefEqProofs only [go_sem,Z1,Z2,Z3,Z4]
    try (with_reducible refine ind_andM (by kernel_rfl) ?_)
    try simp -implicitDefEqProofs only [go_sem,Z1,Z2,Z3,Z4,c0,c1,c2,k3,e0]
    try (with_reducible refine ind_andM (by kernel_rfl) ?_)
    refine finM' [some 0] ?_ rfl rfl
    simp -implicitDefEqProofs only [go_sem,Z1,Z2,Z3,Z4]
    rw [hlv]
    rfl
  | cons x l=>
    rw [hlv] at ee
    rw [← ee]
    have hLB:LB = 1099511627776:=rfl
    refine C_goW (nt:=64) (rs:=[.cell 4 29]) Tryz.func44 rfl rfl rfl rfl rfl (fun hl he=>?_)
    simp -implicitDefEqProofs only [go_sem,Z1,Z2,Z3,Z4] at hl he ⊢
    refine W_seq (W_of hm ?_)
    try simp -implicitDefEqProofs only [go_sem,Z1,Z2,Z3,Z4,onQ_on,thenQ_n,thenQ_r]
    try (with_reducible refine ind_andM (by kernel_rfl) ?_)
    refine W_seq (W_of hm ?_)
    try simp -implicitDefEqProofs only [go_sem,Z1,Z2,Z3,Z4,onQ_on,thenQ_n,thenQ_r]
    try (with_reducible refine ind_andM (by kernel_rfl) ?_)
    refine atOwn [] [3] (c_spec_l14Copy_T k (by omega) hll) ?_ ?_ <;> simp -implicitDefEqProofs only [go_sem,Z1,Z2,Z3,Z4,onQ_on,thenQ_n,thenQ_r]
    try (with_reducible refine ind_andM (by kernel_rfl) ?_)
    refine W_seq (W_seq (W_of hm ?_))
    try simp -implicitDefEqProofs only [go_sem,Z1,Z2,Z3,Z4,onQ_on,thenQ_n,thenQ_r]
    try (with_reducible refine ind_andM (by kernel_rfl) ?_)
    refine atOwn [] [0] (c_pick b p 40 hb (by omega) (by omega)) ?_ ?_ <;> simp -implicitDefEqProofs only [go_sem,Z1,Z2,Z3,Z4,onQ_on,thenQ_n,thenQ_r]
    try (with_reducible refine ind_andM (by kernel_rfl) ?_)
    refine W_block (W_seq (W_of hm ?_))
    try simp -implicitDefEqProofs only [go_sem,Z1,Z2,Z3,Z4,c0,onQ_on,thenQ_n,thenQ_r]
    try (with_reducible refine ind_andM (by kernel_rfl) ?_)
    refine W_cond (b:=false) rfl (fun h=>by cases h) (fun _=>?_)
    refine W_seq (W_of hm ?_)
    try simp -implicitDefEqProofs only [go_sem,Z1,Z2,Z3,Z4,c1,onQ_on,thenQ_n,thenQ_r]
    try (with_reducible refine ind_andM (by kernel_rfl) ?_)
    refine W_cond (b:=false) rfl (fun h=>by cases h) (fun _=>?_)
    refine W_seq (W_of hm ?_)
    try simp -implicitDefEqProofs only [go_sem,Z1,Z2,Z3,Z4,c2,onQ_on,thenQ_n,thenQ_r]
    try (with_reducible refine ind_andM (by kernel_rfl) ?_)
    refine W_cond (b:=false) rfl (fun h=>by cases h) (fun _=>?_)
    refine W_seq (W_of hm ?_)
    try simp -implicitDefEqProofs only [go_sem,Z1,Z2,Z3,Z4,k3,onQ_on,thenQ_n,thenQ_r]
    try (with_reducible refine ind_andM (by kernel_rfl) ?_)
    refine W_cond (b:=true) rfl (fun _=>?_) (fun h=>by cases h)
    have h0:(0:Int) < (k.levels.length:Int):=by rw [hlv]; simp
    refine W_seq (W_of hm ?_)
    try simp -implicitDefEqProofs only [go_sem,Z1,Z2,Z3,Z4,h0,onQ_on,thenQ_n,thenQ_r]
    try (with_reducible refine ind_andM (by kernel_rfl) ?_)
    refine W_cond (b:=true) rfl (fun _=>?_) (fun h=>by cases h)
    refine W_seq (W_flag hm rfl rfl rfl rfl (by kernel_rfl) (by kernel_rfl) (by kernel_rfl) (by kernel_rfl) (by kernel_rfl) (by kernel_rfl) (by simp only [mkS_len]; omega) ?_)
    intro f
    have h0':0 < k.levels.length:=by omega
    obtain ⟨u,hu⟩:∃ u,k.levels[0] = u:=⟨_,rfl⟩
    have hux:u = x:=by rw [← hu]; simp [hlv]
    have hub:u.length ≤ 3000:=by
     have a1:=ctForms_len u
     have a2:=ctL_mem ctForms (hu ▸ List.getElem_mem h0')
     rw [ctStack] at hc
     omega
    have hfr:frzRows ((dT k.levels).set 0 [.own 50 (lift (rowsForm u) ++ [(cForm form0).map T.leaf])]) = some (rowsFF ((x ++ [form0]) :: l)):=by
     have e1:k.levels.set 0 (u ++ [form0]) = (x ++ [form0]) :: l:=by rw [hlv,hux]; rfl
     rw [← e1]
     refine set_frzD k.levels 0 h0' _ _ ?_
     have h1:=frz_app (frzRows_lift (rowsForm u)) (show frzRows [(cForm form0).map T.leaf] = some [cForm form0] by simp [frzRows,frz_leafs])
     simp only [frzCells,T.frz,h1]
     rw [← rowsForm_app,rowsForm_cons,rowsForm_nil]
    have hp:(lift (rowsForm u)).length = u.length:=by rw [lift_len,rowsForm_len]
    have hrz:∀ r,rwT (lift (rowsForm u) ++ [r]) u.length = r:=fun r=>rwT_endn hp
    have hsz:∀ r r',(lift (rowsForm u) ++ [r]).set u.length r' = lift (rowsForm u) ++ [r']:=fun r r'=>set_endn hp
    have hl3:0 < (dT k.levels).length:=by rw [dT_len]; exact h0'
    have hrow:rwT (dT k.levels) 0 = [.own 50 (lift (rowsForm u))]:=by rw [dT_row h0',hu]; rfl
    have hrs:∀ r,rwT ((dT k.levels).set 0 r) 0 = r:=fun r=>rwT_set hl3
    refine W_weak (Wk0.weak (take_row 3 0 _ rfl hl3 hrow)) ?_
    simp -implicitDefEqProofs only [go_sem,Z1,Z2,Z3,Z4,thenQ_n]
    cases f
    ·refine W_of hm ?_
     try simp -implicitDefEqProofs only [go_sem,Z1,Z2,Z3,Z4,onQ_on,thenQ_n,thenQ_r,hrs]
     try (with_reducible refine ind_andM (by kernel_rfl) ?_)
     repeat (first | with_reducible refine ind_andM (by kernel_rfl) ?_ | (with_reducible apply And.intro; case left=>first | omega | assumption | exact ⟨rowsT_all _,by omega⟩ | exact ⟨rowsI_all _,by omega⟩ | exact ⟨rowsLit_all _,by omega⟩ | exact ⟨rowsLin_all _,by omega⟩ | exact ⟨rowsEq_all _,by omega⟩ | rfl | (simp [*]; done) | (simp; omega) | exact ⟨rowsRat_all _,by omega⟩ | exact ⟨rowsAtom_all _,by omega⟩ | exact ⟨rowsB_all _,by omega⟩ | exact ⟨rowsForm_all _,by omega⟩ | exact ⟨rowsII_all _,by omega⟩))
     try simp -implicitDefEqProofs only [go_sem,Z1,Z2,Z3,Z4,blockQ,onQ_on,thenQ_n,thenQ_r,hrs]
     try (with_reducible refine ind_andM (by kernel_rfl) ?_)
     refine W_weak (Wk0.weak (put_row 3 0 _ rfl (by rw [List.length_set]; exact hl3) (hrs _))) ?_
     simp -implicitDefEqProofs only [go_sem,Z1,Z2,Z3,Z4,lift_one]
     simp only [cForm,List.map_cons,List.map_nil] at hfr
     refine W_of hm ?_
     try simp -implicitDefEqProofs only [go_sem,Z1,Z2,Z3,Z4,onQ_on,thenQ_n,thenQ_r]
     try (with_reducible refine ind_andM (by kernel_rfl) ?_)
     refine FinW_of ?_
     refine finM' [some 0] ?_ rfl rfl
     simp -implicitDefEqProofs only [go_sem,Z1,Z2,Z3,Z4]
     exact ⟨⟨_,hfr,rfl⟩,rfl⟩
    ·refine W_of hm ?_
     try simp -implicitDefEqProofs only [go_sem,Z1,Z2,Z3,Z4,onQ_on,thenQ_n,thenQ_r,hrs,lift_one,hrz,hsz]
     try (with_reducible refine ind_andM (by kernel_rfl) ?_)
     repeat (first | with_reducible refine ind_andM (by kernel_rfl) ?_ | (with_reducible apply And.intro; case left=>first | omega | assumption | exact ⟨rowsT_all _,by omega⟩ | exact ⟨rowsI_all _,by omega⟩ | exact ⟨rowsLit_all _,by omega⟩ | exact ⟨rowsLin_all _,by omega⟩ | exact ⟨rowsEq_all _,by omega⟩ | rfl | (simp [*]; done) | (simp; omega) | exact ⟨rowsRat_all _,by omega⟩ | exact ⟨rowsAtom_all _,by omega⟩ | exact ⟨rowsB_all _,by omega⟩ | exact ⟨rowsForm_all _,by omega⟩ | exact ⟨rowsII_all _,by omega⟩))
     try simp -implicitDefEqProofs only [go_sem,Z1,Z2,Z3,Z4,blockQ,onQ_on,thenQ_n,thenQ_r,hrs]
     try (with_reducible refine ind_andM (by kernel_rfl) ?_)
     refine W_weak (Wk0.weak (put_row 3 0 _ rfl (by rw [List.length_set]; exact hl3) (hrs _))) ?_
     simp -implicitDefEqProofs only [go_sem,Z1,Z2,Z3,Z4,lift_one]
     simp only [cForm,List.map_cons,List.map_nil] at hfr
     refine W_of hm ?_
     try simp -implicitDefEqProofs only [go_sem,Z1,Z2,Z3,Z4,onQ_on,thenQ_n,thenQ_r]
     try (with_reducible refine ind_andM (by kernel_rfl) ?_)
     refine FinW_of ?_
     refine finM' [some 0] ?_ rfl rfl
     simp -implicitDefEqProofs only [go_sem,Z1,Z2,Z3,Z4]
     exact ⟨⟨_,hfr,rfl⟩,rfl⟩
 ·rw [if_neg c3] at ee
  rw [← ee]
  have hLB:=LB_eq
  refine C_goS (nt:=64) (rs:=[.cell 4 29]) hm Tryz.func44 rfl rfl rfl rfl rfl (fun hl he=>?_)
  simp -implicitDefEqProofs only [go_sem,Z1,Z2,Z3,Z4] at hl ⊢
  refine atCall [] (c_spec_l14Copy k (by omega) hll) ?_ ?_ <;> simp -implicitDefEqProofs only [go_sem,Z1,Z2,Z3,Z4]
  try (with_reducible refine ind_andM (by kernel_rfl) ?_)
  refine atOwn [] [0] (c_pick b p 40 hb (by omega) (by omega)) ?_ ?_ <;> simp -implicitDefEqProofs only [go_sem,Z1,Z2,Z3,Z4]
  try (with_reducible refine ind_andM (by kernel_rfl) ?_)
  try simp -implicitDefEqProofs only [go_sem,Z1,Z2,Z3,Z4,c0,c1,c2,c3]
  try (with_reducible refine ind_andM (by kernel_rfl) ?_)
  refine finM' [some 0] ?_ rfl rfl
  simp -implicitDefEqProofs only [go_sem,Z1,Z2,Z3,Z4]
  repeat' apply And.intro
  all_goals rfl
theorem c_spec_DrawStackTell (b:List Int) (hb:∀ x ∈ b,0 ≤ x ∧ x ≤ 255) (hl9:b.length ≤ 2000000):C E.P 15 [lv (byD b)] [] (Eq2 (.tup [av (cStack (drawTell (b.take 2000)).1),av (cForm (drawTell (b.take 2000)).2)]) []):=by
 have hO:=openOk hb
 obtain ⟨c,hc⟩:∃ c,b.take 2000 = c:=⟨_,rfl⟩
 have c1:=c_spec_l16Open b hb hl9
 rw [hc] at hO c1 ⊢
 have hL:=stkSome_b hO (p:=0) (by omega)
 have hfair:=stkSome_fair c 0
 have hl7:=stkSome_len hO (p:=0) (by omega)
 have c2:=c_spec_l14Some c hO 0 (by omega) (by omega)
 obtain ⟨d,ed,d1,d2⟩:=drawTell_b hO
 have t1:=two_pow_le d2
 have t2:(2:Int) ^ 2 = 4:=by decide
 obtain ⟨y,e0⟩:∃ y,drawTell c = y:=⟨_,rfl⟩
 have ee:=e0
 unfold drawTell at ee
 simp only [ed,Int.toNat_natCast] at ee
 generalize stkSome c 0 = r at hL c2 hfair hl7 ed ee
 obtain ⟨k,told,q⟩:=r
 simp only at hL c2 hfair hl7 ed ee
 obtain ⟨b1,b2,b3,b4,b5,b6⟩:=hL
 have cA:=c_spec_l9Any c hO told (by omega) (by omega) d (q + 1) d1 (by omega) (by omega)
 have gA:=anyF_b hO (atoms:=told) d (q + 1) (by omega)
 generalize anyF c told d (q + 1) = f at cA gA ee
 have gS:=someF_b hO (p:=f.2 + 1) (by omega)
 rw [e0,← ee]
 have hLB:=LB_eq
 refine C_goS (nt:=33) (rs:=[.cell 2 29,.cell 3 50]) hm Tryz.func15 rfl rfl rfl rfl rfl (fun hl he=>?_)
 simp -implicitDefEqProofs only [go_sem,Z1,Z2,Z3,Z4] at hl ⊢
 refine atOwn [] [2] c1 ?_ ?_ <;> simp -implicitDefEqProofs only [go_sem,Z1,Z2,Z3,Z4]
 try (with_reducible refine ind_andM (by kernel_rfl) ?_)
 refine atOwn [] [2] c2 ?_ ?_ <;> simp -implicitDefEqProofs only [go_sem,Z1,Z2,Z3,Z4]
 try (with_reducible refine ind_andM (by kernel_rfl) ?_)
 refine atOwn [] [2] (c_num c q [1,2] hO (by omega) (by omega) (by simp) (by simp)) ?_ ?_ <;> simp -implicitDefEqProofs only [go_sem,Z1,Z2,Z3,Z4,ed]
 try (with_reducible refine ind_andM (by kernel_rfl) ?_)
 refine atOwn [] [2] cA ?_ ?_ <;> simp -implicitDefEqProofs only [go_sem,Z1,Z2,Z3,Z4]
 try (with_reducible refine ind_andM (by kernel_rfl) ?_)
 refine atOwn [] [2] (c_pick c f.2 12 hO (by omega) (by omega)) ?_ ?_ <;> simp -implicitDefEqProofs only [go_sem,Z1,Z2,Z3,Z4]
 try (with_reducible refine ind_andM (by kernel_rfl) ?_)
 rcases Classical.em (pickV c f.2 12 = 0) with c0 | c0
 ·have k0:=eq_true c0
  simp only [if_pos c0]
  try simp -implicitDefEqProofs only [go_sem,Z1,Z2,Z3,Z4,k0]
  try (with_reducible refine ind_andM (by kernel_rfl) ?_)
  refine atOwn [] [2] (c_spec_l9Some c hO (f.2 + 1) (by omega) (by omega)) ?_ ?_ <;> simp -implicitDefEqProofs only [go_sem,Z1,Z2,Z3,Z4]
  try (with_reducible refine ind_andM (by kernel_rfl) ?_)
  refine atOwn [] [2] (c_spec_l14Bent c hO k hfair (by omega) hl7 (someF c (f.2 + 1)).2.2 (by omega) (by omega)) ?_ ?_ <;> simp -implicitDefEqProofs only [go_sem,Z1,Z2,Z3,Z4]
  try (with_reducible refine ind_andM (by kernel_rfl) ?_)
  refine fin1' ?_
  simp -implicitDefEqProofs only [go_sem,Z1,Z2,Z3,Z4]
 ·simp only [if_neg c0]
  try simp -implicitDefEqProofs only [go_sem,Z1,Z2,Z3,Z4,c0]
  try (with_reducible refine ind_andM (by kernel_rfl) ?_)
  refine atOwn [] [2] (c_spec_l14Bent c hO k hfair (by omega) hl7 (f.2 + 1) (by omega) (by omega)) ?_ ?_ <;> simp -implicitDefEqProofs only [go_sem,Z1,Z2,Z3,Z4]
  try (with_reducible refine ind_andM (by kernel_rfl) ?_)
  refine fin1' ?_
  simp -implicitDefEqProofs only [go_sem,Z1,Z2,Z3,Z4]
end Go.Proofs.YtdikjlldidjioaaGreat
