/-
  The program: the walks of lemmas. A step towards the exact laws.
-/
import Derived.Test.YtgpjhjalfakpoaaGreatKBh
set_option linter.unusedVariables false
set_option linter.unusedSimpArgs false
open And renaming intro→ay
open Bool renaming false_eq_true→al,true_and→az,false_and→aK,not_true→fR,not_false→gv
open Classical renaming em→aa
open List renaming drop_zero→gr
namespace Go.Proofs.YtgpjhjalfakpoaaGreat
open Go.Eng Go.Mod
open Int renaming reduceEq→Z1,reduceLT→Z2,reduceLE→Z3,reduceToNat→Z4
set_option maxRecDepth 100000
set_option maxHeartbeats 800000
theorem iU(n:Int)(hn:-60≤n∧n≤60):C E.P 58 [iv n] [] (bw (iv (n.natAbs:Int)) []):=by
 refine gT (nt:=7) (rs:=[.tmp 2]) hm Tryz.func58 fun hl he cp=>?_
 refine sQ ?_
 refine NX n (-n) (n.natAbs:Int) Ju (by simp -implicitDefEqProofs only[go_sem,Z1,Z2,Z3,Z4]) (by simp -implicitDefEqProofs only[go_sem,Z1,Z2,Z3,Z4]) ?_
 try simp -implicitDefEqProofs only[go_sem,Z1,Z2,Z3,Z4]
 refine sI ?_
 refine ak ?_
 refine sB ?_
 all_goals(first|done|(simp;done)|(simp;omega)|skip)
theorem mX(l:Int)(many:Nat)(hm1:many≤60):C E.P 98 [iv l,iv many] [] (bw (bv (dF l many)) []):=by
 refine gT (nt:=14) (rs:=[.tmp 4]) hm Tryz.func98 fun hl he cp=>?_
 rcases aa (l=0) with h|h
 ·have k:=eq_true h
  try simp -implicitDefEqProofs only[go_sem,Z1,Z2,Z3,Z4,k]
  refine sI ?_
  refine ak ?_
  refine sB ?_
  all_goals(first|done|(simp[dF,h];done)|(simp[dF,h];omega)|skip)
 ·try simp -implicitDefEqProofs only[go_sem,Z1,Z2,Z3,Z4,h]
  refine sJ ?_
  refine aD [] (fh l (-(many:Int)) many) ?_
  refine sI ?_
  refine ak ?_
  refine sB ?_
  all_goals(first|done|(simp[dF,h];done)|(simp[dF,h];omega)|skip)
theorem B7(ns:List Int)(n:Int):C E.P 146 [lv (aM ns),iv n] [] (bw (iv (idxOf (fun x=>decide (n=x)) ns)) []):=by
 refine gT (nt:=19) (rs:=[.tmp 4]) hm Tryz.func146 fun hl he cp=>?_
 refine aI hm (fun(i:Nat)=> i≤ns.length∧idxOf (fun x=>decide (n=x)) ns=cL (fun x=>decide (n=x)) (ns.drop i) i) (fun(i:Nat)=> ⟨eQ 19 .any [(0,lv (aM ns)),(1,iv n),(7,iv ns.length),(8,iv i)],[]⟩) (fun(i:Nat)=> ns.length-i) (0) ?_ (ax [] ?_ ?_ rfl rfl) ?_
 rotate_left
 ·refine sB ?_
  all_goals(try exact sM)
 ·refine sB ?_
  all_goals(try exact sM)
 rotate_left
 ·simp[idxOf]
 ·rintro i ⟨hi,hg⟩
  rcases aa (i<ns.length) with h1|h1
  ·rw[List.drop_eq_getElem_cons h1,cL] at hg
   rcases aa (n=ns[i]) with h2|h2
   ·have k2:=eq_true h2
    simp only[←h2,decide_true,if_true] at hg
    try simp -implicitDefEqProofs only[go_sem,Z1,Z2,Z3,Z4,h1,k2]
    refine sI ?_
    refine ak ?_
    refine sB ?_
    all_goals(first|done|(simp[hg];done)|(simp[hg];omega)|skip)
   ·simp only[h2,decide_false,al,if_false] at hg
    try simp -implicitDefEqProofs only[go_sem,Z1,Z2,Z3,Z4,h1,h2]
    refine sJ ?_
    refine⟨i+1,?_,sL,ax [] ?_ ?_ rfl rfl⟩
    rotate_left
    ·refine sB ?_
     all_goals(try exact sM)
    ·refine sB ?_
     all_goals(try exact sM)
    exact⟨by omega,by rw[hg];rfl⟩
  ·rw[List.drop_of_length_le (by omega),cL] at hg
   try simp -implicitDefEqProofs only[go_sem,Z1,Z2,Z3,Z4,h1]
   refine sI ?_
   refine ak ?_
   refine sB ?_
   all_goals(first|done|(simp[hg];done)|(simp[hg];omega)|skip)
theorem wG(ns:List Int)(n:Int):decide (0≤idxOf (fun x=>decide (n=x)) ns)=ns.contains n:=by
 have key:∀{ns:List Int}{i:Int},0≤i→decide (0≤cL (fun x=>decide (n=x)) ns i)=ns.contains n:=by
  intro ns
  induction ns with
  | nil=>intro i hi;simp[cL]
  | cons a ns ih=>
    intro i hi
    simp only[cL,List.contains_cons]
    rcases aa (n=a) with h|h
    ·simp[h,hi]
    ·have hb:(n == a)=false:=by simpa using h
     simp only[h,decide_false,al,if_false,hb,Bool.false_or]
     exact ih (by omega)
 exact key (by omega)
theorem fv(ns:List Int)(n:Int):C E.P 99 [lv (aM ns),iv n] [] (bw (bv (ns.contains n)) []):=by
 refine gT (nt:=9) (rs:=[.tmp 4]) hm Tryz.func99 fun hl he cp=>?_
 refine aD [] (B7 ns n) ?_
 refine sI ?_
 refine ak ?_
 refine sB ?_
 rw[←wG]
theorem qQ(marks:List Int)(atoms:List Atom)(hm1:atoms.length≤60):C E.P 51 [lv (aM marks),lv (aJ atoms)] [] (bw (bv (ik marks atoms.length)) []):=by
 have e:ik marks atoms.length=oi [] marks atoms.length:=rfl
 refine gT (nt:=35) (rs:=[.tmp 4]) hm Tryz.func51 fun hl he cp=>?_
 refine aI hm (fun(i:Nat)=> i≤marks.length∧oi [] marks atoms.length=oi (marks.take i) (marks.drop i) atoms.length) (fun(i:Nat)=> ⟨eQ 35 .any [(0,lv (aM marks)),(1,lv (aJ atoms)),(7,lv (aM marks)),(8,iv marks.length),(9,iv i)],[]⟩) (fun(i:Nat)=> marks.length-i) (0) ?_ (ax [] ?_ ?_ rfl rfl) ?_
 rotate_left
 ·refine sB ?_
  all_goals(try exact sM)
 ·refine sB ?_
  all_goals(try exact sM)
 rotate_left
 ·simp
 ·rintro i ⟨hi,hg⟩
  rcases aa (i<marks.length) with h1|h1
  ·rw[DI h1] at hg
   try simp -implicitDefEqProofs only[go_sem,Z1,Z2,Z3,Z4,h1]
   refine sI ?_
   refine aD [] (mX marks[i] atoms.length hm1) ?_
   refine sI ?_
   cases h2:dF marks[i] atoms.length
   ·rw[h2,aK] at hg
    try simp -implicitDefEqProofs only[go_sem,Z1,Z2,Z3,Z4]
    refine sI ?_
    refine ak ?_
    refine sB ?_
    all_goals(first|done|(simp[e,hg];done)|(simp[e,hg];omega)|skip)
   ·have hb:=h2
    simp only[dF,Bool.and_eq_true,cF] at hb
    rw[h2,az] at hg
    try simp -implicitDefEqProofs only[go_sem,Z1,Z2,Z3,Z4]
    refine sI ?_
    refine ay ⟨by omega,jo _⟩ ?_
    try simp -implicitDefEqProofs only[go_sem,Z1,Z2,Z3,Z4,Nat.sub_zero,gr,xO]
    refine sI ?_
    refine aD [] (fv (marks.take i) marks[i]) ?_
    refine sI ?_
    cases h3:(marks.take i).contains marks[i]
    ·rw[h3] at hg
     simp only[gv,az] at hg
     try simp -implicitDefEqProofs only[go_sem,Z1,Z2,Z3,Z4]
     refine sI ?_
     refine ay ⟨by omega,jo _⟩ ?_
     try simp -implicitDefEqProofs only[go_sem,Z1,Z2,Z3,Z4,Nat.sub_zero,gr,xO]
     refine sJ ?_
     refine aD [] (fv (marks.take i) (-marks[i])) ?_
     refine sI ?_
     cases h4:(marks.take i).contains (-marks[i])
     ·rw[h4] at hg
      simp only[gv,az] at hg
      try simp -implicitDefEqProofs only[go_sem,Z1,Z2,Z3,Z4]
      refine sJ ?_
      refine⟨i+1,?_,sL,ax [] ?_ ?_ rfl rfl⟩
      rotate_left
      ·refine sB ?_
       all_goals(try exact sM)
      ·refine sB ?_
       all_goals(try exact sM)
      exact⟨by omega,hg⟩
     ·rw[h4] at hg
      simp only[fR,aK] at hg
      try simp -implicitDefEqProofs only[go_sem,Z1,Z2,Z3,Z4]
      refine sI ?_
      refine ak ?_
      refine sB ?_
      all_goals(first|done|(simp[e,hg];done)|(simp[e,hg];omega)|skip)
    ·rw[h3] at hg
     simp only[fR,aK] at hg
     try simp -implicitDefEqProofs only[go_sem,Z1,Z2,Z3,Z4]
     refine sI ?_
     refine ak ?_
     refine sB ?_
     all_goals(first|done|(simp[e,hg];done)|(simp[e,hg];omega)|skip)
  ·rw[Hb (by omega)] at hg
   try simp -implicitDefEqProofs only[go_sem,Z1,Z2,Z3,Z4,h1]
   refine sI ?_
   refine ak ?_
   refine sB ?_
   all_goals(first|done|(simp[e,hg];done)|(simp[e,hg];omega)|skip)
end Go.Proofs.YtgpjhjalfakpoaaGreat
