/-
  The program: the walks of clause form. A step towards the exact laws.
-/
import Derived.Test.YtgpjhjalfakpoaaGreatKBl
import Derived.Shelf.Spec.SlicesGrow
set_option linter.unusedVariables false
set_option linter.unusedSimpArgs false
open And renaming intro→ay
open Classical renaming em→aa
open List renaming drop_of_length_le→ag,getElem_mem→ah,length_append→ao,append_nil→bC
open Nat renaming le_refl→ar,sub_self→gG
namespace Go.Proofs.YtgpjhjalfakpoaaGreat
open Go.Eng Go.Mod
open Int renaming reduceEq→Z1,reduceLT→Z2,reduceLE→Z3,reduceToNat→Z4
set_option maxRecDepth 100000
set_option maxHeartbeats 800000
theorem pk(a b:List (List Int)):bt a++bt b=bt (a++b):=by simp[bt]
theorem Dm{c:Mod.dq}{l:List Int}(h:dJ l=none):ck c l=c:=by unfold ck;rw[h]
theorem Dw{c:Mod.dq}{l o:List Int}(h:dJ l=some o):ck c l=⟨c.many,c.list++[o]⟩:=by unfold ck;rw[h]
theorem dz(c:Mod.dq)(atoms:List Atom)(fs:List Mod.Form)(l:List Int)(mq:l≠[])(wA:l.length≤12)(hb9:∀x∈l,-1000000≤x∧x≤1000000)(hc9:c.list.length≤100000) :
 C E.P 52 [.ptr 0 0,lv (aM l)] [some (.box [iv c.many,.acc 1,lv (aJ atoms),.acc 2]),some (.acc 29 (bt c.list)),some (.acc 36 (aN fs))] (bw (.gN []) [some (.box [iv (ck c l).many,.acc 3,lv (aJ atoms),.acc 2]),some .dead,some (.acc 36 (aN fs)),some (.acc 29 (bt (ck c l).list))]):=by
 refine gS (nt:=24) (rs:=[]) hm Tryz.func52 fun hl he cp=>?_
 refine aC [] (ov l mq wA hb9) ?_
 cases h:dJ l with
 | none=>
   have e:=Dm (c:=c) h
   refine uK ?_
   refine bh [some 0,some 1,some 2,some 1] ?_ rfl rfl
   refine sA ?_
   rw[e]
   exact⟨rfl,rfl⟩
 | some o=>
   have e:=Dw (c:=c) h
   refine uL ?_
   refine sQ ?_
   refine bh [some 0,some 1,some 2,some 3] ?_ rfl rfl
   refine sA ?_
   rw[e]
   exact⟨rfl,pk c.list [o]⟩
theorem Az(fs:List Mod.Form)(t:Mod.Form)(z:List D)(r:List D)(hr:r=cx t):(aN fs++[z]).set fs.length r=aN (fs++[t]):=by
 rw[←jM,List.set_append_right _ _ (by rw[cQ];exact ar _),cQ,gG,hr,dt,fG]
 rfl
theorem ku(gs:List Mod.Form)(t:Mod.Form):(aN gs++[[D.val (Value.int .i64 0),D.val (Value.int .i64 0),D.str [],D.b7 [],D.str [],D.b7 [],D.b7 [],D.b7 [],D.val (Value.int .i64 0),D.val (Value.bool false),D.val (Value.bool false),D.b7 []]]).set gs.length (pB (row (aN gs++[[D.val (Value.int .i64 0),D.val (Value.int .i64 0),D.str [],D.b7 [],D.str [],D.b7 [],D.b7 [],D.b7 [],D.val (Value.int .i64 0),D.val (Value.bool false),D.val (Value.bool false),D.b7 []]]) gs.length) 0 [D.val (Value.int .i64 t.kind),D.val (Value.int .i64 t.lit.atom.kind),D.str t.lit.atom.A.name,D.b7 (aQ t.lit.atom.A.kids),D.str t.lit.atom.B.name,D.b7 (aQ t.lit.atom.B.kids),D.b7 (aQ t.lit.atom.aP),D.b7 (aM t.lit.atom.times),D.val (Value.int .i64 t.lit.atom.bound),D.val (Value.bool t.lit.atom.strict),D.val (Value.bool t.lit.no),D.b7 (aN t.kids)])=aN (gs++[t]):=by
 have e:row (aN gs++[[D.val (Value.int .i64 0),D.val (Value.int .i64 0),D.str [],D.b7 [],D.str [],D.b7 [],D.b7 [],D.b7 [],D.val (Value.int .i64 0),D.val (Value.bool false),D.val (Value.bool false),D.b7 []]]) gs.length=[D.val (Value.int .i64 0),D.val (Value.int .i64 0),D.str [],D.b7 [],D.str [],D.b7 [],D.b7 [],D.b7 [],D.val (Value.int .i64 0),D.val (Value.bool false),D.val (Value.bool false),D.b7 []]:=by
  unfold row
  rw[List.getD,List.getElem?_append_right (by rw[cQ];exact ar _),cQ,gG]
  rfl
 rw[e]
 exact Az gs t _ _ (by cases t;rfl)
theorem vr(atoms:List Atom)(fX:atoms.length≤1000)(t:Mod.Form)(ih:∀k∈t.kids,∀(d:Nat)(c:Mod.dq)(fs:List Mod.Form),aL k d=true→inside atoms k→(atoms.length:Int)≤c.many→c.many+2 ^ d≤10000→c.list.length+4*2 ^ d≤80000→fs.length+2 ^ d≤80000→C E.P 97 [.ptr 0 0,av (cx k)] [some (.box [iv c.many,.acc 1,lv (aJ atoms),.acc 2]),some (.acc 29 (bt c.list)),some (.acc 36 (aN fs))] (bw (iv (a7 atoms k c).2) [some (.box [iv (a7 atoms k c).1.many,.acc 3,lv (aJ atoms),.acc 4]),some .dead,some .dead,some (.acc 29 (bt (a7 atoms k c).1.list)),some (.acc 36 (aN (fs++cy k)))]))
 (d:Nat) (c:Mod.dq) (fs:List Mod.Form) (hsh:aL t d=true) (nH:inside atoms t) (hmm:(atoms.length:Int)≤c.many) (hb1:c.many+2 ^ d≤10000) (hb2:c.list.length+4*2 ^ d≤80000) (hb3:fs.length+2 ^ d≤80000) :
 C E.P 97 [.ptr 0 0,av (cx t)] [some (.box [iv c.many,.acc 1,lv (aJ atoms),.acc 2]),some (.acc 29 (bt c.list)),some (.acc 36 (aN fs))] (bw (iv (a7 atoms t c).2) [some (.box [iv (a7 atoms t c).1.many,.acc 3,lv (aJ atoms),.acc 4]),some .dead,some .dead,some (.acc 29 (bt (a7 atoms t c).1.list)),some (.acc 36 (aN (fs++cy t)))]):=by
 cases d with
 | zero=>cases t;simp[aL] at hsh
 | succ d=>
 have hk:=cz hsh
 have hp1:(1:Nat)≤2 ^ d:=Nat.one_le_two_pow
 have hp2:(2:Nat) ^ (d+1)=2*2 ^ d:=by rw[Nat.pow_succ];omega
 have hp3:(2:Int) ^ (d+1)=2*((2 ^ d:Nat):Int):=by rw[Int.pow_succ,Int.mul_comm];simp
 have hp4:(2:Int) ^ d=((2 ^ d:Nat):Int):=by simp
 rw[hp2] at hb2 hb3
 rw[hp3] at hb1
 rcases kl hk.1 with⟨k1,hl0⟩|⟨k2,hl1⟩|⟨k3,hl2⟩
 ·have e:=pQ (atoms:=atoms) (c:=c) k1
  have en:=xw k1
  have hmem:=rn nH k1
  have b1:=ib.2 hmem
  have b2:=xe hmem
  have kk:=eq_true k1
  refine gS (nt:=166) (rs:=[.tmp 4]) hm Tryz.func97 fun hl he cp=>?_
  simp -implicitDefEqProofs only[go_sem,kk]
  refine aC [] (kd atoms t.lit.atom) ?_
  refine sQ ?_
  cases hno:t.lit.no
  ·refine sA ?_
   refine bh [some 0,some 1,some 2,some 1,some 2] ?_ rfl rfl
   refine sA ?_
   rw[e,en,hno,bC]
   exact⟨rfl,rfl,rfl,rfl⟩
  ·refine sA ?_
   refine sQ ?_
   refine bh [some 0,some 1,some 2,some 1,some 2] ?_ rfl rfl
   refine sA ?_
   rw[e,en,hno,bC]
   exact⟨rfl,rfl,rfl,rfl⟩
 ·have e:=pR (atoms:=atoms) (c:=c) k2 hl1
  have en:=yL k2 hl1
  have h0:0<t.kids.length:=by omega
  have hk0:=ah h0
  have hs0:=bx hk.2.2 _ hk0
  have hi0:=dA nH (by omega) _ hk0
  have c0:=ih t.kids[0] hk0 d c fs hs0 hi0 hmm (by omega) (by omega) (by omega)
  have g0:=dj t.kids[0] d atoms c hs0
  have m0:=gA t.kids[0] d hs0
  have q0:=eg t.kids[0] d atoms c hs0 hi0 hmm (by omega)
  have n1:¬t.kind=1:=by omega
  have kk:=eq_true k2
  refine gS (nt:=166) (rs:=[.tmp 4]) hm Tryz.func97 fun hl he cp=>?_
  simp -implicitDefEqProofs only[go_sem,n1,h0]
  refine bT [] [0,1,2,4,5] c0 ?_ ?_
  ·refine sA ?_
   first|rfl|((repeat' apply ay)<;>rfl)
  refine sA ?_
  simp -implicitDefEqProofs only[go_sem,kk]
  refine sQ ?_
  refine bh [some 0,some 1,some 2,some 4,some 5] ?_ rfl rfl
  refine sA ?_
  rw[e,en]
  exact⟨rfl,rfl,rfl,rfl⟩
 ·have n1:¬t.kind=1:=by omega
  have n2:¬t.kind=2:=by omega
  have e:=pJ (atoms:=atoms) (c:=c) n1 n2 hl2
  have en:=wI n1 n2 hl2
  have h0:0<t.kids.length:=by omega
  have h1:1<t.kids.length:=by omega
  have hk0:=ah h0
  have hs0:=bx hk.2.2 _ hk0
  have hi0:=dA nH (by omega) _ hk0
  have c0:=ih t.kids[0] hk0 d c fs hs0 hi0 hmm (by omega) (by omega) (by omega)
  have g0:=dj t.kids[0] d atoms c hs0
  have m0:=gA t.kids[0] d hs0
  have f0:=nI t.kids[0] d hs0
  have q0:=eg t.kids[0] d atoms c hs0 hi0 hmm (by omega)
  generalize hc1:a7 atoms t.kids[0] c=r1 at *
  have hk1:=ah h1
  have hs1:=bx hk.2.2 _ hk1
  have hi1:=dA nH (by omega) _ hk1
  have c1:=ih t.kids[1] hk1 d r1.1 (fs++cy t.kids[0]) hs1 hi1 (by omega) (by omega) (by omega) (by rw[ao];omega)
  have g1:=dj t.kids[1] d atoms r1.1 hs1
  have m1:=gA t.kids[1] d hs1
  have f1:=nI t.kids[1] d hs1
  have q1:=eg t.kids[1] d atoms r1.1 hs1 hi1 (by omega) (by omega)
  generalize hc2:a7 atoms t.kids[1] r1.1=r2 at *
  have ha:fs++(cy t.kids[0]++cy t.kids[1]++[t])=fs++cy t.kids[0]++cy t.kids[1]++[t]:=by simp
  rw[e,en,ha]
  generalize hfs:fs++cy t.kids[0]++cy t.kids[1]=gs at *
  have hgl:gs.length≤80000:=by rw[←hfs,ao,ao];omega
  rcases k3 with kx|kx|kx|kx
  ·have z:((⟨r2.1.many+1,r2.1.list⟩:Mod.dq)).list.length≤80000:=by simp only;omega
   have z0:=cR ((⟨r2.1.many+1,r2.1.list⟩:Mod.dq)) [-(r2.1.many+1),r1.2]
   have u0:=dz ((⟨r2.1.many+1,r2.1.list⟩:Mod.dq)) atoms (gs++[t]) [-(r2.1.many+1),r1.2] (by simp) (by simp) (by simp;omega) (by omega)
   simp only[cb,de] at u0
   have z1:=cR (ck ((⟨r2.1.many+1,r2.1.list⟩:Mod.dq)) [-(r2.1.many+1),r1.2]) [-(r2.1.many+1),r2.2]
   have u1:=dz (ck ((⟨r2.1.many+1,r2.1.list⟩:Mod.dq)) [-(r2.1.many+1),r1.2]) atoms (gs++[t]) [-(r2.1.many+1),r2.2] (by simp) (by simp) (by simp;omega) (by omega)
   simp only[cb,de] at u1
   have z2:=cR (ck (ck ((⟨r2.1.many+1,r2.1.list⟩:Mod.dq)) [-(r2.1.many+1),r1.2]) [-(r2.1.many+1),r2.2]) [(r2.1.many+1),-r1.2,-r2.2]
   have u2:=dz (ck (ck ((⟨r2.1.many+1,r2.1.list⟩:Mod.dq)) [-(r2.1.many+1),r1.2]) [-(r2.1.many+1),r2.2]) atoms (gs++[t]) [(r2.1.many+1),-r1.2,-r2.2] (by simp) (by simp) (by simp;omega) (by omega)
   simp only[cb,de] at u2
   have en:iH t.kind ⟨r2.1.many+1,r2.1.list⟩ (r2.1.many+1) r1.2 r2.2=ck (ck (ck ((⟨r2.1.many+1,r2.1.list⟩:Mod.dq)) [-(r2.1.many+1),r1.2]) [-(r2.1.many+1),r2.2]) [(r2.1.many+1),-r1.2,-r2.2]:=by rw[iH,if_pos kx];simp only[Dq,Int.neg_neg]
   rw[en]
   have kk:=eq_true kx
   refine gS (nt:=166) (rs:=[.tmp 4]) hm Tryz.func97 fun hl he cp=>?_
   simp -implicitDefEqProofs only[go_sem,n1,h0]
   refine bT [] [0,1,2,4,5] c0 ?_ ?_
   ·refine sA ?_
    first|rfl|((repeat' apply ay)<;>rfl)
   refine sA ?_
   simp -implicitDefEqProofs only[go_sem,Z3,Z4,n2,h1]
   refine bT [] [0,4,5,6,7] c1 ?_ ?_
   ·refine sA ?_
    first|rfl|((repeat' apply ay)<;>rfl)
   refine sA ?_
   refine sQ ?_
   refine ay (by rw[ao,cQ];simp) ?_
   refine ay (by rw[ao,cQ];simp) ?_
   refine iK ?_
   rw[ku gs t]
   simp -implicitDefEqProofs only[go_sem,kk]
   refine sQ ?_
   refine bT [] [0,6,8,9] u0 ?_ ?_
   ·refine sA ?_
    first|rfl|((repeat' apply ay)<;>rfl)
   refine sA ?_
   refine sQ ?_
   refine bT [] [0,9,8,10] u1 ?_ ?_
   ·refine sA ?_
    first|rfl|((repeat' apply ay)<;>rfl)
   refine sA ?_
   refine sQ ?_
   refine bT [] [0,10,8,11] u2 ?_ ?_
   ·refine sA ?_
    first|rfl|((repeat' apply ay)<;>rfl)
   refine sA ?_
   refine bh [some 0,some 1,some 2,some 11,some 8] ?_ rfl rfl
   exact sC
  ·have n3:¬t.kind=3:=by omega
   have z:((⟨r2.1.many+1,r2.1.list⟩:Mod.dq)).list.length≤80000:=by simp only;omega
   have z0:=cR ((⟨r2.1.many+1,r2.1.list⟩:Mod.dq)) [(r2.1.many+1),-r1.2]
   have u0:=dz ((⟨r2.1.many+1,r2.1.list⟩:Mod.dq)) atoms (gs++[t]) [(r2.1.many+1),-r1.2] (by simp) (by simp) (by simp;omega) (by omega)
   simp only[cb,de] at u0
   have z1:=cR (ck ((⟨r2.1.many+1,r2.1.list⟩:Mod.dq)) [(r2.1.many+1),-r1.2]) [(r2.1.many+1),-r2.2]
   have u1:=dz (ck ((⟨r2.1.many+1,r2.1.list⟩:Mod.dq)) [(r2.1.many+1),-r1.2]) atoms (gs++[t]) [(r2.1.many+1),-r2.2] (by simp) (by simp) (by simp;omega) (by omega)
   simp only[cb,de] at u1
   have z2:=cR (ck (ck ((⟨r2.1.many+1,r2.1.list⟩:Mod.dq)) [(r2.1.many+1),-r1.2]) [(r2.1.many+1),-r2.2]) [-(r2.1.many+1),r1.2,r2.2]
   have u2:=dz (ck (ck ((⟨r2.1.many+1,r2.1.list⟩:Mod.dq)) [(r2.1.many+1),-r1.2]) [(r2.1.many+1),-r2.2]) atoms (gs++[t]) [-(r2.1.many+1),r1.2,r2.2] (by simp) (by simp) (by simp;omega) (by omega)
   simp only[cb,de] at u2
   have en:iH t.kind ⟨r2.1.many+1,r2.1.list⟩ (r2.1.many+1) r1.2 r2.2=ck (ck (ck ((⟨r2.1.many+1,r2.1.list⟩:Mod.dq)) [(r2.1.many+1),-r1.2]) [(r2.1.many+1),-r2.2]) [-(r2.1.many+1),r1.2,r2.2]:=by rw[iH,if_neg n3,if_pos kx];simp only[Dq]
   rw[en]
   have kk:=eq_true kx
   refine gS (nt:=166) (rs:=[.tmp 4]) hm Tryz.func97 fun hl he cp=>?_
   simp -implicitDefEqProofs only[go_sem,n1,h0]
   refine bT [] [0,1,2,4,5] c0 ?_ ?_
   ·refine sA ?_
    first|rfl|((repeat' apply ay)<;>rfl)
   refine sA ?_
   simp -implicitDefEqProofs only[go_sem,Z3,Z4,n2,h1]
   refine bT [] [0,4,5,6,7] c1 ?_ ?_
   ·refine sA ?_
    first|rfl|((repeat' apply ay)<;>rfl)
   refine sA ?_
   refine sQ ?_
   refine ay (by rw[ao,cQ];simp) ?_
   refine ay (by rw[ao,cQ];simp) ?_
   refine iK ?_
   rw[ku gs t]
   simp -implicitDefEqProofs only[go_sem,n3,kk]
   refine sQ ?_
   refine bT [] [0,6,8,9] u0 ?_ ?_
   ·refine sA ?_
    first|rfl|((repeat' apply ay)<;>rfl)
   refine sA ?_
   refine sQ ?_
   refine bT [] [0,9,8,10] u1 ?_ ?_
   ·refine sA ?_
    first|rfl|((repeat' apply ay)<;>rfl)
   refine sA ?_
   refine sQ ?_
   refine bT [] [0,10,8,11] u2 ?_ ?_
   ·refine sA ?_
    first|rfl|((repeat' apply ay)<;>rfl)
   refine sA ?_
   refine bh [some 0,some 1,some 2,some 11,some 8] ?_ rfl rfl
   exact sC
  ·have n3:¬t.kind=3:=by omega
   have n4:¬t.kind=4:=by omega
   have z:((⟨r2.1.many+1,r2.1.list⟩:Mod.dq)).list.length≤80000:=by simp only;omega
   have z0:=cR ((⟨r2.1.many+1,r2.1.list⟩:Mod.dq)) [(r2.1.many+1),r1.2]
   have u0:=dz ((⟨r2.1.many+1,r2.1.list⟩:Mod.dq)) atoms (gs++[t]) [(r2.1.many+1),r1.2] (by simp) (by simp) (by simp;omega) (by omega)
   simp only[cb,de] at u0
   have z1:=cR (ck ((⟨r2.1.many+1,r2.1.list⟩:Mod.dq)) [(r2.1.many+1),r1.2]) [(r2.1.many+1),-r2.2]
   have u1:=dz (ck ((⟨r2.1.many+1,r2.1.list⟩:Mod.dq)) [(r2.1.many+1),r1.2]) atoms (gs++[t]) [(r2.1.many+1),-r2.2] (by simp) (by simp) (by simp;omega) (by omega)
   simp only[cb,de] at u1
   have z2:=cR (ck (ck ((⟨r2.1.many+1,r2.1.list⟩:Mod.dq)) [(r2.1.many+1),r1.2]) [(r2.1.many+1),-r2.2]) [-(r2.1.many+1),-r1.2,r2.2]
   have u2:=dz (ck (ck ((⟨r2.1.many+1,r2.1.list⟩:Mod.dq)) [(r2.1.many+1),r1.2]) [(r2.1.many+1),-r2.2]) atoms (gs++[t]) [-(r2.1.many+1),-r1.2,r2.2] (by simp) (by simp) (by simp;omega) (by omega)
   simp only[cb,de] at u2
   have en:iH t.kind ⟨r2.1.many+1,r2.1.list⟩ (r2.1.many+1) r1.2 r2.2=ck (ck (ck ((⟨r2.1.many+1,r2.1.list⟩:Mod.dq)) [(r2.1.many+1),r1.2]) [(r2.1.many+1),-r2.2]) [-(r2.1.many+1),-r1.2,r2.2]:=by rw[iH,if_neg n3,if_neg n4,if_pos kx];simp only[Dq,Int.neg_neg]
   rw[en]
   have kk:=eq_true kx
   refine gS (nt:=166) (rs:=[.tmp 4]) hm Tryz.func97 fun hl he cp=>?_
   simp -implicitDefEqProofs only[go_sem,n1,h0]
   refine bT [] [0,1,2,4,5] c0 ?_ ?_
   ·refine sA ?_
    first|rfl|((repeat' apply ay)<;>rfl)
   refine sA ?_
   simp -implicitDefEqProofs only[go_sem,Z3,Z4,n2,h1]
   refine bT [] [0,4,5,6,7] c1 ?_ ?_
   ·refine sA ?_
    first|rfl|((repeat' apply ay)<;>rfl)
   refine sA ?_
   refine sQ ?_
   refine ay (by rw[ao,cQ];simp) ?_
   refine ay (by rw[ao,cQ];simp) ?_
   refine iK ?_
   rw[ku gs t]
   simp -implicitDefEqProofs only[go_sem,n3,n4,kk]
   refine bT [] [0,6,8,9] u0 ?_ ?_
   ·refine sA ?_
    first|rfl|((repeat' apply ay)<;>rfl)
   refine sA ?_
   refine sQ ?_
   refine bT [] [0,9,8,10] u1 ?_ ?_
   ·refine sA ?_
    first|rfl|((repeat' apply ay)<;>rfl)
   refine sA ?_
   refine sQ ?_
   refine bT [] [0,10,8,11] u2 ?_ ?_
   ·refine sA ?_
    first|rfl|((repeat' apply ay)<;>rfl)
   refine sA ?_
   refine bh [some 0,some 1,some 2,some 11,some 8] ?_ rfl rfl
   exact sC
  ·have n3:¬t.kind=3:=by omega
   have n4:¬t.kind=4:=by omega
   have n5:¬t.kind=5:=by omega
   have z:((⟨r2.1.many+1,r2.1.list⟩:Mod.dq)).list.length≤80000:=by simp only;omega
   have z0:=cR ((⟨r2.1.many+1,r2.1.list⟩:Mod.dq)) [-(r2.1.many+1),-r1.2,r2.2]
   have u0:=dz ((⟨r2.1.many+1,r2.1.list⟩:Mod.dq)) atoms (gs++[t]) [-(r2.1.many+1),-r1.2,r2.2] (by simp) (by simp) (by simp;omega) (by omega)
   simp only[cb,de] at u0
   have z1:=cR (ck ((⟨r2.1.many+1,r2.1.list⟩:Mod.dq)) [-(r2.1.many+1),-r1.2,r2.2]) [-(r2.1.many+1),r1.2,-r2.2]
   have u1:=dz (ck ((⟨r2.1.many+1,r2.1.list⟩:Mod.dq)) [-(r2.1.many+1),-r1.2,r2.2]) atoms (gs++[t]) [-(r2.1.many+1),r1.2,-r2.2] (by simp) (by simp) (by simp;omega) (by omega)
   simp only[cb,de] at u1
   have z2:=cR (ck (ck ((⟨r2.1.many+1,r2.1.list⟩:Mod.dq)) [-(r2.1.many+1),-r1.2,r2.2]) [-(r2.1.many+1),r1.2,-r2.2]) [(r2.1.many+1),r1.2,r2.2]
   have u2:=dz (ck (ck ((⟨r2.1.many+1,r2.1.list⟩:Mod.dq)) [-(r2.1.many+1),-r1.2,r2.2]) [-(r2.1.many+1),r1.2,-r2.2]) atoms (gs++[t]) [(r2.1.many+1),r1.2,r2.2] (by simp) (by simp) (by simp;omega) (by omega)
   simp only[cb,de] at u2
   have z3:=cR (ck (ck (ck ((⟨r2.1.many+1,r2.1.list⟩:Mod.dq)) [-(r2.1.many+1),-r1.2,r2.2]) [-(r2.1.many+1),r1.2,-r2.2]) [(r2.1.many+1),r1.2,r2.2]) [(r2.1.many+1),-r1.2,-r2.2]
   have u3:=dz (ck (ck (ck ((⟨r2.1.many+1,r2.1.list⟩:Mod.dq)) [-(r2.1.many+1),-r1.2,r2.2]) [-(r2.1.many+1),r1.2,-r2.2]) [(r2.1.many+1),r1.2,r2.2]) atoms (gs++[t]) [(r2.1.many+1),-r1.2,-r2.2] (by simp) (by simp) (by simp;omega) (by omega)
   simp only[cb,de] at u3
   have en:iH t.kind ⟨r2.1.many+1,r2.1.list⟩ (r2.1.many+1) r1.2 r2.2=ck (ck (ck (ck ((⟨r2.1.many+1,r2.1.list⟩:Mod.dq)) [-(r2.1.many+1),-r1.2,r2.2]) [-(r2.1.many+1),r1.2,-r2.2]) [(r2.1.many+1),r1.2,r2.2]) [(r2.1.many+1),-r1.2,-r2.2]:=by rw[iH,if_neg n3,if_neg n4,if_neg n5];simp only[yg]
   rw[en]
   refine gS (nt:=166) (rs:=[.tmp 4]) hm Tryz.func97 fun hl he cp=>?_
   simp -implicitDefEqProofs only[go_sem,n1,h0]
   refine bT [] [0,1,2,4,5] c0 ?_ ?_
   ·refine sA ?_
    first|rfl|((repeat' apply ay)<;>rfl)
   refine sA ?_
   simp -implicitDefEqProofs only[go_sem,Z3,Z4,n2,h1]
   refine bT [] [0,4,5,6,7] c1 ?_ ?_
   ·refine sA ?_
    first|rfl|((repeat' apply ay)<;>rfl)
   refine sA ?_
   refine sQ ?_
   refine ay (by rw[ao,cQ];simp) ?_
   refine ay (by rw[ao,cQ];simp) ?_
   refine iK ?_
   rw[ku gs t]
   simp -implicitDefEqProofs only[go_sem,n3,n4,n5]
   refine sQ ?_
   refine bT [] [0,6,8,9] u0 ?_ ?_
   ·refine sA ?_
    first|rfl|((repeat' apply ay)<;>rfl)
   refine sA ?_
   refine sQ ?_
   refine bT [] [0,9,8,10] u1 ?_ ?_
   ·refine sA ?_
    first|rfl|((repeat' apply ay)<;>rfl)
   refine sA ?_
   refine bT [] [0,10,8,11] u2 ?_ ?_
   ·refine sA ?_
    first|rfl|((repeat' apply ay)<;>rfl)
   refine sA ?_
   refine sQ ?_
   refine bT [] [0,11,8,12] u3 ?_ ?_
   ·refine sA ?_
    first|rfl|((repeat' apply ay)<;>rfl)
   refine sA ?_
   refine bh [some 0,some 1,some 2,some 12,some 8] ?_ rfl rfl
   exact sC
theorem xH(atoms:List Atom)(fX:atoms.length≤1000):∀(t:Mod.Form)(d:Nat)(c:Mod.dq)(fs:List Mod.Form),aL t d=true→inside atoms t→(atoms.length:Int)≤c.many→c.many+2 ^ d≤10000→c.list.length+4*2 ^ d≤80000→fs.length+2 ^ d≤80000 →
 C E.P 97 [.ptr 0 0,av (cx t)] [some (.box [iv c.many,.acc 1,lv (aJ atoms),.acc 2]),some (.acc 29 (bt c.list)),some (.acc 36 (aN fs))] (bw (iv (a7 atoms t c).2) [some (.box [iv (a7 atoms t c).1.many,.acc 3,lv (aJ atoms),.acc 4]),some .dead,some .dead,some (.acc 29 (bt (a7 atoms t c).1.list)),some (.acc 36 (aN (fs++cy t)))]):=
 Form.ind fun k x ks ih d c fs h1 h2 h3 h4 h5 h6=>vr atoms fX (.mk k x ks) ih d c fs h1 h2 h3 h4 h5 h6
theorem Aq{list:List Mod.Form}{i:Nat}(h:i<list.length):eR (list.drop i)=cy list[i]++eR (list.drop (i+1)):=by
 rw[List.drop_eq_getElem_cons h,eR]
theorem rI(list:List Mod.Form)(atoms:List Atom)(h:bS list=some atoms):C E.P 50 [lv (aN list)] [] (bw (.gN [.ptr 0 0,bv true]) [some (.box [iv (hU list).many,.acc 1,lv (aJ atoms),.acc 2]),some (.acc 29 (bt (hU list).list)),some (.acc 36 (aN (eR list)))]):=by
 obtain⟨p1,p2,p3,p4⟩:=dB h
 have e:=kb h
 rw[e]
 refine gS (nt:=36) (rs:=[.tmp 2,.tmp 3]) hm Tryz.func50 fun hl he cp=>?_
 have hc:=jF list
 rw[h] at hc
 simp only[Option.getD_some,Option.isSome_some] at hc
 refine aC [] hc ?_
 refine kL hm (fun(i:Nat) (c:Mod.dq) (fs:List Mod.Form)=> i≤list.length∧(atoms.length:Int)≤c.many∧c.many≤6+31*i∧c.list.length≤125*i∧gm atoms list ⟨atoms.length,[]⟩=gm atoms (list.drop i) c∧fs.length≤31*i∧eR list=fs++eR (list.drop i)) (fun(i:Nat) (c:Mod.dq) (fs:List Mod.Form)=> ⟨eQ 36 .any [(6,.ptr 0 0),(22,lv (aN list)),(23,iv list.length),(24,iv i)],[some (.box [iv c.many,.acc 1,lv (aJ atoms),.acc 2]),some (.acc 29 (bt c.list)),some (.acc 36 (aN fs))]⟩) (fun(i:Nat) (c:Mod.dq) (fs:List Mod.Form)=> list.length-i) (0) (⟨atoms.length,[]⟩) ([]) ?_ (ax [some 0,none,none] ?_ ?_ rfl rfl) ?_
 rotate_left
 ·exact sC
 ·exact sC
 rotate_left
 ·exact⟨by omega,by simp only;omega,by simp only;omega,by simp,rfl,by simp,rfl⟩
 ·rintro i c fs ⟨hi,b1,b2,b3,hg,b4,hn⟩
  rcases aa (i<list.length) with h1|h1
  ·obtain⟨q0,q1,q2,q3,q4,q5,q6,q7,q8⟩:=GL h h1 b1 b2 b3
   have q9:=nI list[i] 5 q3
   have q10:=gA list[i] 5 q3
   rw[Dx h1] at hg
   rw[Aq h1,←List.append_assoc] at hn
   have cf:=xH atoms (by omega) list[i] 5 c fs q3 q4 b1 (by omega) (by omega) (by omega)
   have ca:=dz (a7 atoms list[i] c).1 atoms (fs++cy list[i]) [(a7 atoms list[i] c).2] (by simp) (by simp) (by simp;omega) (by omega)
   simp only[cb,de] at ca
   refine uA ?_
   refine bT [] [0,1,2,4,5] cf ?_ ?_
   ·refine sA ?_
    first|rfl|((repeat' apply ay)<;>rfl)
   refine sA ?_
   refine bT [] [0,4,5,6] ca ?_ ?_
   ·refine sA ?_
    first|rfl|((repeat' apply ay)<;>rfl)
   refine sA ?_
   refine sQ ?_
   refine⟨i+1,ck (a7 atoms list[i] c).1 [(a7 atoms list[i] c).2],fs++cy list[i],?_,sL,ax [some 0,some 6,some 5] ?_ ?_ rfl rfl⟩
   rotate_left
   ·exact sC
   ·exact sC
   exact⟨by omega,q6,q7,q8,hg,by rw[ao];omega,hn⟩
  ·rw[ag (by omega),gm] at hg
   rw[ag (by omega),eR,bC] at hn
   rw[hg,hn]
   refine uA ?_
   refine bh [some 0,some 1,some 2] ?_ rfl rfl
   exact sC
theorem vt(list:List Mod.Form)(atoms:List Atom)(h:bS list=some atoms)(ls:List Mod.rY)(wA:ls.length≤64)(hs9:∀l∈ls,ik l.marks atoms.length=true∧l.marks≠[]):C E.P 24 [lv (aN list),lv (jr ls)] [] (bw (.gN [av (Gu (nQ (hU list) ls)),bv true]) []):=by
 obtain⟨p1,p2,p3,p4⟩:=dB h
 have hn:¬ (64:Int)<(ls.length:Int):=by omega
 have cZ:=Gd list
 refine gS (nt:=48) (rs:=[.cell 4 67,.tmp 5]) hm Tryz.func24 fun hl he cp=>?_
 refine oC [] [1,2,3] (rI list atoms h) ?_
 simp -implicitDefEqProofs only[go_sem,hn]
 refine pr hm (fun(i:Nat) (b:Mod.dq)=> i≤ls.length∧b.list.length≤1000+i∧nQ (hU list) ls=nQ b (ls.drop i)) (fun(i:Nat) (b:Mod.dq)=> ⟨eQ 48 .any [(4,.ptr 0 0),(6,.ptr 1 0),(23,lv (jr ls)),(24,iv ls.length),(25,iv i)],[some (.box [iv 0,.aV]),some (.box [iv b.many,.acc 2,lv (aJ atoms),.acc 3]),some (.acc 29 (bt b.list)),some (.acc 36 (aN (eR list)))]⟩) (fun(i:Nat) (b:Mod.dq)=> ls.length-i) (0) (hU list) ?_ (ax [some 0,some 1,some 2,some 3] ?_ ?_ rfl rfl) ?_
 rotate_left
 ·exact sC
 ·exact sC
 rotate_left
 ·exact⟨by omega,by omega,rfl⟩
 ·rintro i b ⟨hi,b1,hg⟩
  rcases aa (i<ls.length) with h1|h1
  ·obtain⟨q1,q2⟩:=hs9 ls[i] (ah h1)
   have q3:=Ia q1 p3
   have q4:=ow q1
   have a1:=cR b (ls[i].marks.map fun m=>-m)
   rw[CE h1] at hg
   have hc:=qQ ls[i].marks atoms (by omega)
   rw[q1] at hc
   refine uA ?_
   refine aC [] hc ?_
   refine iK ?_
   refine aC [] (mb ls[i].marks (by omega) (fun x hx=>by have:=q4 x hx;omega)) ?_
   refine bT [] [1,2,3,5] (dz b atoms (eR list) (ls[i].marks.map fun m=>-m) (by simpa using q2) (by rw[List.length_map];omega) (fun x hx=>by obtain⟨m,hm1,hm2⟩:=List.mem_map.1 hx;have:=q4 m hm1;omega) (by omega)) ?_ ?_
   ·refine sA ?_
    first|rfl|((repeat' apply ay)<;>rfl)
   refine sA ?_
   refine sQ ?_
   refine⟨i+1,ck b (ls[i].marks.map fun m=>-m),?_,sL,ax [some 0,some 1,some 5,some 3] ?_ ?_ rfl rfl⟩
   rotate_left
   ·exact sC
   ·exact sC
   exact⟨by omega,by omega,hg⟩
  ·rw[ag (by omega),nQ] at hg
   rw[hg]
   refine uA ?_
   refine ak ?_
   exact sC
end Go.Proofs.YtgpjhjalfakpoaaGreat
