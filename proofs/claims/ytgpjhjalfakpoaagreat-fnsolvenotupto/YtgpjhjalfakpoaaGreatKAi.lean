/-
  The program: the walks of lemmas. A step towards the exact laws.
-/
import Derived.Test.YtgpjhjalfakpoaaGreatKAh
set_option linter.unusedVariables false
set_option linter.unusedSimpArgs false
open And renaming intro→aH
open Bool renaming false_eq_true→ak,true_and→ay,false_and→aI,not_true→fF,not_false→gi
open Classical renaming em→aa
open List renaming drop_zero→gg
namespace Go.Proofs.YtgpjhjalfakpoaaGreat
open Go.Eng Go.Mod
open Int renaming reduceEq→Z1,reduceLT→Z2,reduceLE→Z3,reduceToNat→Z4
set_option maxRecDepth 100000
set_option maxHeartbeats 800000
theorem iD(n:Int)(hn:-60≤n∧n≤60):C E.P 58 [iv n] [] (bB (iv (n.natAbs:Int)) []):=by
 refine gT (nt:=7) (rs:=[.tmp 2]) hm Tryz.func58 fun hl he cx=>?_
 refine sQ ?_
 refine MZ n (-n) (n.natAbs:Int) GV (by simp -implicitDefEqProofs only[go_sem,Z1,Z2,Z3,Z4]) (by simp -implicitDefEqProofs only[go_sem,Z1,Z2,Z3,Z4]) ?_
 try simp -implicitDefEqProofs only[go_sem,Z1,Z2,Z3,Z4]
 refine sI ?_
 refine al ?_
 refine sB ?_
 all_goals(first|done|(simp;done)|(simp;omega)|skip)
theorem mz(l:Int)(many:Nat)(hm1:many≤60):C E.P 98 [iv l,iv many] [] (bB (bv (dz l many)) []):=by
 refine gT (nt:=14) (rs:=[.tmp 4]) hm Tryz.func98 fun hl he cx=>?_
 rcases aa (l=0) with h|h
 ·have k:=eq_true h
  try simp -implicitDefEqProofs only[go_sem,Z1,Z2,Z3,Z4,k]
  refine sI ?_
  refine al ?_
  refine sB ?_
  all_goals(first|done|(simp[dz,h];done)|(simp[dz,h];omega)|skip)
 ·try simp -implicitDefEqProofs only[go_sem,Z1,Z2,Z3,Z4,h]
  refine sJ ?_
  refine aD [] (eR l (-(many:Int)) many) ?_
  refine sI ?_
  refine al ?_
  refine sB ?_
  all_goals(first|done|(simp[dz,h];done)|(simp[dz,h];omega)|skip)
theorem Bt(ns:List Int)(n:Int):C E.P 146 [lv (aL ns),iv n] [] (bB (iv (idxOf (fun x=>decide (n=x)) ns)) []):=by
 refine gT (nt:=19) (rs:=[.tmp 4]) hm Tryz.func146 fun hl he cx=>?_
 refine aG hm (fun(i:Nat)=> i≤ns.length∧idxOf (fun x=>decide (n=x)) ns=cI (fun x=>decide (n=x)) (ns.drop i) i) (fun(i:Nat)=> ⟨eE 19 .any [(0,lv (aL ns)),(1,iv n),(7,iv ns.length),(8,iv i)],[]⟩) (fun(i:Nat)=> ns.length-i) (0) ?_ (ax [] ?_ ?_ rfl rfl) ?_
 rotate_left
 ·refine sB ?_
  all_goals(try exact sM)
 ·refine sB ?_
  all_goals(try exact sM)
 rotate_left
 ·simp[idxOf]
 ·rintro i ⟨hi,hg⟩
  rcases aa (i<ns.length) with h1|h1
  ·rw[List.drop_eq_getElem_cons h1,cI] at hg
   rcases aa (n=ns[i]) with h2|h2
   ·have k2:=eq_true h2
    simp only[←h2,decide_true,if_true] at hg
    try simp -implicitDefEqProofs only[go_sem,Z1,Z2,Z3,Z4,h1,k2]
    refine sI ?_
    refine al ?_
    refine sB ?_
    all_goals(first|done|(simp[hg];done)|(simp[hg];omega)|skip)
   ·simp only[h2,decide_false,ak,if_false] at hg
    try simp -implicitDefEqProofs only[go_sem,Z1,Z2,Z3,Z4,h1,h2]
    refine sJ ?_
    refine⟨i+1,?_,sL,ax [] ?_ ?_ rfl rfl⟩
    rotate_left
    ·refine sB ?_
     all_goals(try exact sM)
    ·refine sB ?_
     all_goals(try exact sM)
    exact⟨by omega,by rw[hg];rfl⟩
  ·rw[List.drop_of_length_le (by omega),cI] at hg
   try simp -implicitDefEqProofs only[go_sem,Z1,Z2,Z3,Z4,h1]
   refine sI ?_
   refine al ?_
   refine sB ?_
   all_goals(first|done|(simp[hg];done)|(simp[hg];omega)|skip)
theorem vR(ns:List Int)(n:Int):decide (0≤idxOf (fun x=>decide (n=x)) ns)=ns.contains n:=by
 have key:∀{ns:List Int}{i:Int},0≤i→decide (0≤cI (fun x=>decide (n=x)) ns i)=ns.contains n:=by
  intro ns
  induction ns with
  | nil=>intro i hi;simp[cI]
  | cons a ns ih=>
    intro i hi
    simp only[cI,List.contains_cons]
    rcases aa (n=a) with h|h
    ·simp[h,hi]
    ·have hb:(n == a)=false:=by simpa using h
     simp only[h,decide_false,ak,if_false,hb,Bool.false_or]
     exact ih (by omega)
 exact key (by omega)
theorem eY(ns:List Int)(n:Int):C E.P 99 [lv (aL ns),iv n] [] (bB (bv (ns.contains n)) []):=by
 refine gT (nt:=9) (rs:=[.tmp 4]) hm Tryz.func99 fun hl he cx=>?_
 refine aD [] (Bt ns n) ?_
 refine sI ?_
 refine al ?_
 refine sB ?_
 rw[←vR]
theorem qR(marks:List Int)(atoms:List Atom)(hm1:atoms.length≤60):C E.P 51 [lv (aL marks),lv (aK atoms)] [] (bB (bv (hH marks atoms.length)) []):=by
 have e:hH marks atoms.length=nZ [] marks atoms.length:=rfl
 refine gT (nt:=35) (rs:=[.tmp 4]) hm Tryz.func51 fun hl he cx=>?_
 refine aG hm (fun(i:Nat)=> i≤marks.length∧nZ [] marks atoms.length=nZ (marks.take i) (marks.drop i) atoms.length) (fun(i:Nat)=> ⟨eE 35 .any [(0,lv (aL marks)),(1,lv (aK atoms)),(7,lv (aL marks)),(8,iv marks.length),(9,iv i)],[]⟩) (fun(i:Nat)=> marks.length-i) (0) ?_ (ax [] ?_ ?_ rfl rfl) ?_
 rotate_left
 ·refine sB ?_
  all_goals(try exact sM)
 ·refine sB ?_
  all_goals(try exact sM)
 rotate_left
 ·simp
 ·rintro i ⟨hi,hg⟩
  rcases aa (i<marks.length) with h1|h1
  ·rw[DZ h1] at hg
   try simp -implicitDefEqProofs only[go_sem,Z1,Z2,Z3,Z4,h1]
   refine sI ?_
   refine aD [] (mz marks[i] atoms.length hm1) ?_
   refine sI ?_
   cases h2:dz marks[i] atoms.length
   ·rw[h2,aI] at hg
    try simp -implicitDefEqProofs only[go_sem,Z1,Z2,Z3,Z4]
    refine sI ?_
    refine al ?_
    refine sB ?_
    all_goals(first|done|(simp[e,hg];done)|(simp[e,hg];omega)|skip)
   ·have hb:=h2
    simp only[dz,Bool.and_eq_true,cz] at hb
    rw[h2,ay] at hg
    try simp -implicitDefEqProofs only[go_sem,Z1,Z2,Z3,Z4]
    refine sI ?_
    refine aH ⟨by omega,iZ _⟩ ?_
    try simp -implicitDefEqProofs only[go_sem,Z1,Z2,Z3,Z4,Nat.sub_zero,gg,xx]
    refine sI ?_
    refine aD [] (eY (marks.take i) marks[i]) ?_
    refine sI ?_
    cases h3:(marks.take i).contains marks[i]
    ·rw[h3] at hg
     simp only[gi,ay] at hg
     try simp -implicitDefEqProofs only[go_sem,Z1,Z2,Z3,Z4]
     refine sI ?_
     refine aH ⟨by omega,iZ _⟩ ?_
     try simp -implicitDefEqProofs only[go_sem,Z1,Z2,Z3,Z4,Nat.sub_zero,gg,xx]
     refine sJ ?_
     refine aD [] (eY (marks.take i) (-marks[i])) ?_
     refine sI ?_
     cases h4:(marks.take i).contains (-marks[i])
     ·rw[h4] at hg
      simp only[gi,ay] at hg
      try simp -implicitDefEqProofs only[go_sem,Z1,Z2,Z3,Z4]
      refine sJ ?_
      refine⟨i+1,?_,sL,ax [] ?_ ?_ rfl rfl⟩
      rotate_left
      ·refine sB ?_
       all_goals(try exact sM)
      ·refine sB ?_
       all_goals(try exact sM)
      exact⟨by omega,hg⟩
     ·rw[h4] at hg
      simp only[fF,aI] at hg
      try simp -implicitDefEqProofs only[go_sem,Z1,Z2,Z3,Z4]
      refine sI ?_
      refine al ?_
      refine sB ?_
      all_goals(first|done|(simp[e,hg];done)|(simp[e,hg];omega)|skip)
    ·rw[h3] at hg
     simp only[fF,aI] at hg
     try simp -implicitDefEqProofs only[go_sem,Z1,Z2,Z3,Z4]
     refine sI ?_
     refine al ?_
     refine sB ?_
     all_goals(first|done|(simp[e,hg];done)|(simp[e,hg];omega)|skip)
  ·rw[F4 (by omega)] at hg
   try simp -implicitDefEqProofs only[go_sem,Z1,Z2,Z3,Z4,h1]
   refine sI ?_
   refine al ?_
   refine sB ?_
   all_goals(first|done|(simp[e,hg];done)|(simp[e,hg];omega)|skip)
end Go.Proofs.YtgpjhjalfakpoaaGreat
