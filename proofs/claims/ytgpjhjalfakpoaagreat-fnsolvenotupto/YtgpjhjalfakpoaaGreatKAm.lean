/-
  The program: the walks of clause form. A step towards the exact laws.
-/
import Derived.Test.YtgpjhjalfakpoaaGreatKAl
import Derived.Shelf.Spec.SlicesGrow
set_option linter.unusedVariables false
set_option linter.unusedSimpArgs false
open And renaming intro→aH
open Classical renaming em→aa
open List renaming drop_of_length_le→ag,getElem_mem→ai,length_append→an,append_nil→bz
open Nat renaming le_refl→au,sub_self→gu
namespace Go.Proofs.YtgpjhjalfakpoaaGreat
open Go.Eng Go.Mod
open Int renaming reduceEq→Z1,reduceLT→Z2,reduceLE→Z3,reduceToNat→Z4
set_option maxRecDepth 100000
set_option maxHeartbeats 800000
theorem oK(a b:List (List Int)):bq a++bq b=bq (a++b):=by simp[bq]
theorem C5{c:Mod.dh}{l:List Int}(h:dD l=none):cj c l=c:=by unfold cj;rw[h]
theorem Dp{c:Mod.dh}{l o:List Int}(h:dD l=some o):cj c l=⟨c.many,c.list++[o]⟩:=by unfold cj;rw[h]
theorem dq(c:Mod.dh)(atoms:List Atom)(fs:List Mod.Form)(l:List Int)(n9:l≠[])(yV:l.length≤12)(hb9:∀x∈l,-1000000≤x∧x≤1000000)(hc9:c.list.length≤100000) :
 C E.P 52 [.ptr 0 0,lv (aL l)] [some (.box [iv c.many,.acc 1,lv (aK atoms),.acc 2]),some (.acc 29 (bq c.list)),some (.acc 36 (a7 fs))] (bB (.gL []) [some (.box [iv (cj c l).many,.acc 3,lv (aK atoms),.acc 2]),some .dead,some (.acc 36 (a7 fs)),some (.acc 29 (bq (cj c l).list))]):=by
 refine gS (nt:=24) (rs:=[]) hm Tryz.func52 fun hl he cx=>?_
 refine aC [] (nU l n9 yV hb9) ?_
 cases h:dD l with
 | none=>
   have e:=C5 (c:=c) h
   refine uK ?_
   refine bu [some 0,some 1,some 2,some 1] ?_ rfl rfl
   refine sA ?_
   rw[e]
   exact⟨rfl,rfl⟩
 | some o=>
   have e:=Dp (c:=c) h
   refine uL ?_
   refine sQ ?_
   refine bu [some 0,some 1,some 2,some 3] ?_ rfl rfl
   refine sA ?_
   rw[e]
   exact⟨rfl,oK c.list [o]⟩
theorem AL(fs:List Mod.Form)(t:Mod.Form)(z:List D)(r:List D)(hr:r=df t):(a7 fs++[z]).set fs.length r=a7 (fs++[t]):=by
 rw[←nA,List.set_append_right _ _ (by rw[cZ];exact au _),cZ,gu,hr,gE,jl]
 rfl
theorem kb(gs:List Mod.Form)(t:Mod.Form):(a7 gs++[[D.val (Value.int .i64 0),D.val (Value.int .i64 0),D.str [],D.bX [],D.str [],D.bX [],D.bX [],D.bX [],D.val (Value.int .i64 0),D.val (Value.bool false),D.val (Value.bool false),D.bX []]]).set gs.length (o0 (row (a7 gs++[[D.val (Value.int .i64 0),D.val (Value.int .i64 0),D.str [],D.bX [],D.str [],D.bX [],D.bX [],D.bX [],D.val (Value.int .i64 0),D.val (Value.bool false),D.val (Value.bool false),D.bX []]]) gs.length) 0 [D.val (Value.int .i64 t.kind),D.val (Value.int .i64 t.lit.atom.kind),D.str t.lit.atom.A.name,D.bX (aN t.lit.atom.A.kids),D.str t.lit.atom.B.name,D.bX (aN t.lit.atom.B.kids),D.bX (aN t.lit.atom.aM),D.bX (aL t.lit.atom.times),D.val (Value.int .i64 t.lit.atom.bound),D.val (Value.bool t.lit.atom.strict),D.val (Value.bool t.lit.no),D.bX (a7 t.kids)])=a7 (gs++[t]):=by
 have e:row (a7 gs++[[D.val (Value.int .i64 0),D.val (Value.int .i64 0),D.str [],D.bX [],D.str [],D.bX [],D.bX [],D.bX [],D.val (Value.int .i64 0),D.val (Value.bool false),D.val (Value.bool false),D.bX []]]) gs.length=[D.val (Value.int .i64 0),D.val (Value.int .i64 0),D.str [],D.bX [],D.str [],D.bX [],D.bX [],D.bX [],D.val (Value.int .i64 0),D.val (Value.bool false),D.val (Value.bool false),D.bX []]:=by
  unfold row
  rw[List.getD,List.getElem?_append_right (by rw[cZ];exact au _),cZ,gu]
  rfl
 rw[e]
 exact AL gs t _ _ (by cases t;rfl)
theorem uy(atoms:List Atom)(fJ:atoms.length≤1000)(t:Mod.Form)(ih:∀k∈t.kids,∀(d:Nat)(c:Mod.dh)(fs:List Mod.Form),aJ k d=true→inside atoms k→(atoms.length:Int)≤c.many→c.many+2 ^ d≤10000→c.list.length+4*2 ^ d≤80000→fs.length+2 ^ d≤80000→C E.P 97 [.ptr 0 0,av (df k)] [some (.box [iv c.many,.acc 1,lv (aK atoms),.acc 2]),some (.acc 29 (bq c.list)),some (.acc 36 (a7 fs))] (bB (iv (a6 atoms k c).2) [some (.box [iv (a6 atoms k c).1.many,.acc 3,lv (aK atoms),.acc 4]),some .dead,some .dead,some (.acc 29 (bq (a6 atoms k c).1.list)),some (.acc 36 (a7 (fs++cq k)))]))
 (d:Nat) (c:Mod.dh) (fs:List Mod.Form) (hsh:aJ t d=true) (nh:inside atoms t) (hmm:(atoms.length:Int)≤c.many) (hb1:c.many+2 ^ d≤10000) (hb2:c.list.length+4*2 ^ d≤80000) (hb3:fs.length+2 ^ d≤80000) :
 C E.P 97 [.ptr 0 0,av (df t)] [some (.box [iv c.many,.acc 1,lv (aK atoms),.acc 2]),some (.acc 29 (bq c.list)),some (.acc 36 (a7 fs))] (bB (iv (a6 atoms t c).2) [some (.box [iv (a6 atoms t c).1.many,.acc 3,lv (aK atoms),.acc 4]),some .dead,some .dead,some (.acc 29 (bq (a6 atoms t c).1.list)),some (.acc 36 (a7 (fs++cq t)))]):=by
 cases d with
 | zero=>cases t;simp[aJ] at hsh
 | succ d=>
 have hk:=cp hsh
 have hp1:(1:Nat)≤2 ^ d:=Nat.one_le_two_pow
 have hp2:(2:Nat) ^ (d+1)=2*2 ^ d:=by rw[Nat.pow_succ];omega
 have hp3:(2:Int) ^ (d+1)=2*((2 ^ d:Nat):Int):=by rw[Int.pow_succ,Int.mul_comm];simp
 have hp4:(2:Int) ^ d=((2 ^ d:Nat):Int):=by simp
 rw[hp2] at hb2 hb3
 rw[hp3] at hb1
 rcases j6 hk.1 with⟨k1,hl0⟩|⟨k2,hl1⟩|⟨k3,hl2⟩
 ·have e:=pj (atoms:=atoms) (c:=c) k1
  have en:=vP k1
  have hmem:=qn nh k1
  have b1:=hG.2 hmem
  have b2:=v8 hmem
  have kk:=eq_true k1
  refine gS (nt:=166) (rs:=[.tmp 4]) hm Tryz.func97 fun hl he cx=>?_
  simp -implicitDefEqProofs only[go_sem,kk]
  refine aC [] (jR atoms t.lit.atom) ?_
  refine sQ ?_
  cases hno:t.lit.no
  ·refine sA ?_
   refine bu [some 0,some 1,some 2,some 1,some 2] ?_ rfl rfl
   refine sA ?_
   rw[e,en,hno,bz]
   exact⟨rfl,rfl,rfl,rfl⟩
  ·refine sA ?_
   refine sQ ?_
   refine bu [some 0,some 1,some 2,some 1,some 2] ?_ rfl rfl
   refine sA ?_
   rw[e,en,hno,bz]
   exact⟨rfl,rfl,rfl,rfl⟩
 ·have e:=pq (atoms:=atoms) (c:=c) k2 hl1
  have en:=xo k2 hl1
  have h0:0<t.kids.length:=by omega
  have hk0:=ai h0
  have hs0:=bt hk.2.2 _ hk0
  have hi0:=du nh (by omega) _ hk0
  have c0:=ih t.kids[0] hk0 d c fs hs0 hi0 hmm (by omega) (by omega) (by omega)
  have g0:=c9 t.kids[0] d atoms c hs0
  have m0:=gl t.kids[0] d hs0
  have q0:=dR t.kids[0] d atoms c hs0 hi0 hmm (by omega)
  have n1:¬t.kind=1:=by omega
  have kk:=eq_true k2
  refine gS (nt:=166) (rs:=[.tmp 4]) hm Tryz.func97 fun hl he cx=>?_
  simp -implicitDefEqProofs only[go_sem,n1,h0]
  refine b7 [] [0,1,2,4,5] c0 ?_ ?_
  ·refine sA ?_
   first|rfl|((repeat' apply aH)<;>rfl)
  refine sA ?_
  simp -implicitDefEqProofs only[go_sem,kk]
  refine sQ ?_
  refine bu [some 0,some 1,some 2,some 4,some 5] ?_ rfl rfl
  refine sA ?_
  rw[e,en]
  exact⟨rfl,rfl,rfl,rfl⟩
 ·have n1:¬t.kind=1:=by omega
  have n2:¬t.kind=2:=by omega
  have e:=pn (atoms:=atoms) (c:=c) n1 n2 hl2
  have en:=wT n1 n2 hl2
  have h0:0<t.kids.length:=by omega
  have h1:1<t.kids.length:=by omega
  have hk0:=ai h0
  have hs0:=bt hk.2.2 _ hk0
  have hi0:=du nh (by omega) _ hk0
  have c0:=ih t.kids[0] hk0 d c fs hs0 hi0 hmm (by omega) (by omega) (by omega)
  have g0:=c9 t.kids[0] d atoms c hs0
  have m0:=gl t.kids[0] d hs0
  have f0:=nK t.kids[0] d hs0
  have q0:=dR t.kids[0] d atoms c hs0 hi0 hmm (by omega)
  generalize hc1:a6 atoms t.kids[0] c=r1 at *
  have hk1:=ai h1
  have hs1:=bt hk.2.2 _ hk1
  have hi1:=du nh (by omega) _ hk1
  have c1:=ih t.kids[1] hk1 d r1.1 (fs++cq t.kids[0]) hs1 hi1 (by omega) (by omega) (by omega) (by rw[an];omega)
  have g1:=c9 t.kids[1] d atoms r1.1 hs1
  have m1:=gl t.kids[1] d hs1
  have f1:=nK t.kids[1] d hs1
  have q1:=dR t.kids[1] d atoms r1.1 hs1 hi1 (by omega) (by omega)
  generalize hc2:a6 atoms t.kids[1] r1.1=r2 at *
  have ha:fs++(cq t.kids[0]++cq t.kids[1]++[t])=fs++cq t.kids[0]++cq t.kids[1]++[t]:=by simp
  rw[e,en,ha]
  generalize hfs:fs++cq t.kids[0]++cq t.kids[1]=gs at *
  have hgl:gs.length≤80000:=by rw[←hfs,an,an];omega
  rcases k3 with kx|kx|kx|kx
  ·have z:((⟨r2.1.many+1,r2.1.list⟩:Mod.dh)).list.length≤80000:=by simp only;omega
   have z0:=cO ((⟨r2.1.many+1,r2.1.list⟩:Mod.dh)) [-(r2.1.many+1),r1.2]
   have u0:=dq ((⟨r2.1.many+1,r2.1.list⟩:Mod.dh)) atoms (gs++[t]) [-(r2.1.many+1),r1.2] (by simp) (by simp) (by simp;omega) (by omega)
   simp only[b9,cY] at u0
   have z1:=cO (cj ((⟨r2.1.many+1,r2.1.list⟩:Mod.dh)) [-(r2.1.many+1),r1.2]) [-(r2.1.many+1),r2.2]
   have u1:=dq (cj ((⟨r2.1.many+1,r2.1.list⟩:Mod.dh)) [-(r2.1.many+1),r1.2]) atoms (gs++[t]) [-(r2.1.many+1),r2.2] (by simp) (by simp) (by simp;omega) (by omega)
   simp only[b9,cY] at u1
   have z2:=cO (cj (cj ((⟨r2.1.many+1,r2.1.list⟩:Mod.dh)) [-(r2.1.many+1),r1.2]) [-(r2.1.many+1),r2.2]) [(r2.1.many+1),-r1.2,-r2.2]
   have u2:=dq (cj (cj ((⟨r2.1.many+1,r2.1.list⟩:Mod.dh)) [-(r2.1.many+1),r1.2]) [-(r2.1.many+1),r2.2]) atoms (gs++[t]) [(r2.1.many+1),-r1.2,-r2.2] (by simp) (by simp) (by simp;omega) (by omega)
   simp only[b9,cY] at u2
   have en:ir t.kind ⟨r2.1.many+1,r2.1.list⟩ (r2.1.many+1) r1.2 r2.2=cj (cj (cj ((⟨r2.1.many+1,r2.1.list⟩:Mod.dh)) [-(r2.1.many+1),r1.2]) [-(r2.1.many+1),r2.2]) [(r2.1.many+1),-r1.2,-r2.2]:=by rw[ir,if_pos kx];simp only[Eg,Int.neg_neg]
   rw[en]
   have kk:=eq_true kx
   refine gS (nt:=166) (rs:=[.tmp 4]) hm Tryz.func97 fun hl he cx=>?_
   simp -implicitDefEqProofs only[go_sem,n1,h0]
   refine b7 [] [0,1,2,4,5] c0 ?_ ?_
   ·refine sA ?_
    first|rfl|((repeat' apply aH)<;>rfl)
   refine sA ?_
   simp -implicitDefEqProofs only[go_sem,Z3,Z4,n2,h1]
   refine b7 [] [0,4,5,6,7] c1 ?_ ?_
   ·refine sA ?_
    first|rfl|((repeat' apply aH)<;>rfl)
   refine sA ?_
   refine sQ ?_
   refine aH (by rw[an,cZ];simp) ?_
   refine aH (by rw[an,cZ];simp) ?_
   refine iK ?_
   rw[kb gs t]
   simp -implicitDefEqProofs only[go_sem,kk]
   refine sQ ?_
   refine b7 [] [0,6,8,9] u0 ?_ ?_
   ·refine sA ?_
    first|rfl|((repeat' apply aH)<;>rfl)
   refine sA ?_
   refine sQ ?_
   refine b7 [] [0,9,8,10] u1 ?_ ?_
   ·refine sA ?_
    first|rfl|((repeat' apply aH)<;>rfl)
   refine sA ?_
   refine sQ ?_
   refine b7 [] [0,10,8,11] u2 ?_ ?_
   ·refine sA ?_
    first|rfl|((repeat' apply aH)<;>rfl)
   refine sA ?_
   refine bu [some 0,some 1,some 2,some 11,some 8] ?_ rfl rfl
   exact sC
  ·have n3:¬t.kind=3:=by omega
   have z:((⟨r2.1.many+1,r2.1.list⟩:Mod.dh)).list.length≤80000:=by simp only;omega
   have z0:=cO ((⟨r2.1.many+1,r2.1.list⟩:Mod.dh)) [(r2.1.many+1),-r1.2]
   have u0:=dq ((⟨r2.1.many+1,r2.1.list⟩:Mod.dh)) atoms (gs++[t]) [(r2.1.many+1),-r1.2] (by simp) (by simp) (by simp;omega) (by omega)
   simp only[b9,cY] at u0
   have z1:=cO (cj ((⟨r2.1.many+1,r2.1.list⟩:Mod.dh)) [(r2.1.many+1),-r1.2]) [(r2.1.many+1),-r2.2]
   have u1:=dq (cj ((⟨r2.1.many+1,r2.1.list⟩:Mod.dh)) [(r2.1.many+1),-r1.2]) atoms (gs++[t]) [(r2.1.many+1),-r2.2] (by simp) (by simp) (by simp;omega) (by omega)
   simp only[b9,cY] at u1
   have z2:=cO (cj (cj ((⟨r2.1.many+1,r2.1.list⟩:Mod.dh)) [(r2.1.many+1),-r1.2]) [(r2.1.many+1),-r2.2]) [-(r2.1.many+1),r1.2,r2.2]
   have u2:=dq (cj (cj ((⟨r2.1.many+1,r2.1.list⟩:Mod.dh)) [(r2.1.many+1),-r1.2]) [(r2.1.many+1),-r2.2]) atoms (gs++[t]) [-(r2.1.many+1),r1.2,r2.2] (by simp) (by simp) (by simp;omega) (by omega)
   simp only[b9,cY] at u2
   have en:ir t.kind ⟨r2.1.many+1,r2.1.list⟩ (r2.1.many+1) r1.2 r2.2=cj (cj (cj ((⟨r2.1.many+1,r2.1.list⟩:Mod.dh)) [(r2.1.many+1),-r1.2]) [(r2.1.many+1),-r2.2]) [-(r2.1.many+1),r1.2,r2.2]:=by rw[ir,if_neg n3,if_pos kx];simp only[Eg]
   rw[en]
   have kk:=eq_true kx
   refine gS (nt:=166) (rs:=[.tmp 4]) hm Tryz.func97 fun hl he cx=>?_
   simp -implicitDefEqProofs only[go_sem,n1,h0]
   refine b7 [] [0,1,2,4,5] c0 ?_ ?_
   ·refine sA ?_
    first|rfl|((repeat' apply aH)<;>rfl)
   refine sA ?_
   simp -implicitDefEqProofs only[go_sem,Z3,Z4,n2,h1]
   refine b7 [] [0,4,5,6,7] c1 ?_ ?_
   ·refine sA ?_
    first|rfl|((repeat' apply aH)<;>rfl)
   refine sA ?_
   refine sQ ?_
   refine aH (by rw[an,cZ];simp) ?_
   refine aH (by rw[an,cZ];simp) ?_
   refine iK ?_
   rw[kb gs t]
   simp -implicitDefEqProofs only[go_sem,n3,kk]
   refine sQ ?_
   refine b7 [] [0,6,8,9] u0 ?_ ?_
   ·refine sA ?_
    first|rfl|((repeat' apply aH)<;>rfl)
   refine sA ?_
   refine sQ ?_
   refine b7 [] [0,9,8,10] u1 ?_ ?_
   ·refine sA ?_
    first|rfl|((repeat' apply aH)<;>rfl)
   refine sA ?_
   refine sQ ?_
   refine b7 [] [0,10,8,11] u2 ?_ ?_
   ·refine sA ?_
    first|rfl|((repeat' apply aH)<;>rfl)
   refine sA ?_
   refine bu [some 0,some 1,some 2,some 11,some 8] ?_ rfl rfl
   exact sC
  ·have n3:¬t.kind=3:=by omega
   have n4:¬t.kind=4:=by omega
   have z:((⟨r2.1.many+1,r2.1.list⟩:Mod.dh)).list.length≤80000:=by simp only;omega
   have z0:=cO ((⟨r2.1.many+1,r2.1.list⟩:Mod.dh)) [(r2.1.many+1),r1.2]
   have u0:=dq ((⟨r2.1.many+1,r2.1.list⟩:Mod.dh)) atoms (gs++[t]) [(r2.1.many+1),r1.2] (by simp) (by simp) (by simp;omega) (by omega)
   simp only[b9,cY] at u0
   have z1:=cO (cj ((⟨r2.1.many+1,r2.1.list⟩:Mod.dh)) [(r2.1.many+1),r1.2]) [(r2.1.many+1),-r2.2]
   have u1:=dq (cj ((⟨r2.1.many+1,r2.1.list⟩:Mod.dh)) [(r2.1.many+1),r1.2]) atoms (gs++[t]) [(r2.1.many+1),-r2.2] (by simp) (by simp) (by simp;omega) (by omega)
   simp only[b9,cY] at u1
   have z2:=cO (cj (cj ((⟨r2.1.many+1,r2.1.list⟩:Mod.dh)) [(r2.1.many+1),r1.2]) [(r2.1.many+1),-r2.2]) [-(r2.1.many+1),-r1.2,r2.2]
   have u2:=dq (cj (cj ((⟨r2.1.many+1,r2.1.list⟩:Mod.dh)) [(r2.1.many+1),r1.2]) [(r2.1.many+1),-r2.2]) atoms (gs++[t]) [-(r2.1.many+1),-r1.2,r2.2] (by simp) (by simp) (by simp;omega) (by omega)
   simp only[b9,cY] at u2
   have en:ir t.kind ⟨r2.1.many+1,r2.1.list⟩ (r2.1.many+1) r1.2 r2.2=cj (cj (cj ((⟨r2.1.many+1,r2.1.list⟩:Mod.dh)) [(r2.1.many+1),r1.2]) [(r2.1.many+1),-r2.2]) [-(r2.1.many+1),-r1.2,r2.2]:=by rw[ir,if_neg n3,if_neg n4,if_pos kx];simp only[Eg,Int.neg_neg]
   rw[en]
   have kk:=eq_true kx
   refine gS (nt:=166) (rs:=[.tmp 4]) hm Tryz.func97 fun hl he cx=>?_
   simp -implicitDefEqProofs only[go_sem,n1,h0]
   refine b7 [] [0,1,2,4,5] c0 ?_ ?_
   ·refine sA ?_
    first|rfl|((repeat' apply aH)<;>rfl)
   refine sA ?_
   simp -implicitDefEqProofs only[go_sem,Z3,Z4,n2,h1]
   refine b7 [] [0,4,5,6,7] c1 ?_ ?_
   ·refine sA ?_
    first|rfl|((repeat' apply aH)<;>rfl)
   refine sA ?_
   refine sQ ?_
   refine aH (by rw[an,cZ];simp) ?_
   refine aH (by rw[an,cZ];simp) ?_
   refine iK ?_
   rw[kb gs t]
   simp -implicitDefEqProofs only[go_sem,n3,n4,kk]
   refine b7 [] [0,6,8,9] u0 ?_ ?_
   ·refine sA ?_
    first|rfl|((repeat' apply aH)<;>rfl)
   refine sA ?_
   refine sQ ?_
   refine b7 [] [0,9,8,10] u1 ?_ ?_
   ·refine sA ?_
    first|rfl|((repeat' apply aH)<;>rfl)
   refine sA ?_
   refine sQ ?_
   refine b7 [] [0,10,8,11] u2 ?_ ?_
   ·refine sA ?_
    first|rfl|((repeat' apply aH)<;>rfl)
   refine sA ?_
   refine bu [some 0,some 1,some 2,some 11,some 8] ?_ rfl rfl
   exact sC
  ·have n3:¬t.kind=3:=by omega
   have n4:¬t.kind=4:=by omega
   have n5:¬t.kind=5:=by omega
   have z:((⟨r2.1.many+1,r2.1.list⟩:Mod.dh)).list.length≤80000:=by simp only;omega
   have z0:=cO ((⟨r2.1.many+1,r2.1.list⟩:Mod.dh)) [-(r2.1.many+1),-r1.2,r2.2]
   have u0:=dq ((⟨r2.1.many+1,r2.1.list⟩:Mod.dh)) atoms (gs++[t]) [-(r2.1.many+1),-r1.2,r2.2] (by simp) (by simp) (by simp;omega) (by omega)
   simp only[b9,cY] at u0
   have z1:=cO (cj ((⟨r2.1.many+1,r2.1.list⟩:Mod.dh)) [-(r2.1.many+1),-r1.2,r2.2]) [-(r2.1.many+1),r1.2,-r2.2]
   have u1:=dq (cj ((⟨r2.1.many+1,r2.1.list⟩:Mod.dh)) [-(r2.1.many+1),-r1.2,r2.2]) atoms (gs++[t]) [-(r2.1.many+1),r1.2,-r2.2] (by simp) (by simp) (by simp;omega) (by omega)
   simp only[b9,cY] at u1
   have z2:=cO (cj (cj ((⟨r2.1.many+1,r2.1.list⟩:Mod.dh)) [-(r2.1.many+1),-r1.2,r2.2]) [-(r2.1.many+1),r1.2,-r2.2]) [(r2.1.many+1),r1.2,r2.2]
   have u2:=dq (cj (cj ((⟨r2.1.many+1,r2.1.list⟩:Mod.dh)) [-(r2.1.many+1),-r1.2,r2.2]) [-(r2.1.many+1),r1.2,-r2.2]) atoms (gs++[t]) [(r2.1.many+1),r1.2,r2.2] (by simp) (by simp) (by simp;omega) (by omega)
   simp only[b9,cY] at u2
   have z3:=cO (cj (cj (cj ((⟨r2.1.many+1,r2.1.list⟩:Mod.dh)) [-(r2.1.many+1),-r1.2,r2.2]) [-(r2.1.many+1),r1.2,-r2.2]) [(r2.1.many+1),r1.2,r2.2]) [(r2.1.many+1),-r1.2,-r2.2]
   have u3:=dq (cj (cj (cj ((⟨r2.1.many+1,r2.1.list⟩:Mod.dh)) [-(r2.1.many+1),-r1.2,r2.2]) [-(r2.1.many+1),r1.2,-r2.2]) [(r2.1.many+1),r1.2,r2.2]) atoms (gs++[t]) [(r2.1.many+1),-r1.2,-r2.2] (by simp) (by simp) (by simp;omega) (by omega)
   simp only[b9,cY] at u3
   have en:ir t.kind ⟨r2.1.many+1,r2.1.list⟩ (r2.1.many+1) r1.2 r2.2=cj (cj (cj (cj ((⟨r2.1.many+1,r2.1.list⟩:Mod.dh)) [-(r2.1.many+1),-r1.2,r2.2]) [-(r2.1.many+1),r1.2,-r2.2]) [(r2.1.many+1),r1.2,r2.2]) [(r2.1.many+1),-r1.2,-r2.2]:=by rw[ir,if_neg n3,if_neg n4,if_neg n5];simp only[xt]
   rw[en]
   refine gS (nt:=166) (rs:=[.tmp 4]) hm Tryz.func97 fun hl he cx=>?_
   simp -implicitDefEqProofs only[go_sem,n1,h0]
   refine b7 [] [0,1,2,4,5] c0 ?_ ?_
   ·refine sA ?_
    first|rfl|((repeat' apply aH)<;>rfl)
   refine sA ?_
   simp -implicitDefEqProofs only[go_sem,Z3,Z4,n2,h1]
   refine b7 [] [0,4,5,6,7] c1 ?_ ?_
   ·refine sA ?_
    first|rfl|((repeat' apply aH)<;>rfl)
   refine sA ?_
   refine sQ ?_
   refine aH (by rw[an,cZ];simp) ?_
   refine aH (by rw[an,cZ];simp) ?_
   refine iK ?_
   rw[kb gs t]
   simp -implicitDefEqProofs only[go_sem,n3,n4,n5]
   refine sQ ?_
   refine b7 [] [0,6,8,9] u0 ?_ ?_
   ·refine sA ?_
    first|rfl|((repeat' apply aH)<;>rfl)
   refine sA ?_
   refine sQ ?_
   refine b7 [] [0,9,8,10] u1 ?_ ?_
   ·refine sA ?_
    first|rfl|((repeat' apply aH)<;>rfl)
   refine sA ?_
   refine b7 [] [0,10,8,11] u2 ?_ ?_
   ·refine sA ?_
    first|rfl|((repeat' apply aH)<;>rfl)
   refine sA ?_
   refine sQ ?_
   refine b7 [] [0,11,8,12] u3 ?_ ?_
   ·refine sA ?_
    first|rfl|((repeat' apply aH)<;>rfl)
   refine sA ?_
   refine bu [some 0,some 1,some 2,some 12,some 8] ?_ rfl rfl
   exact sC
theorem wV(atoms:List Atom)(fJ:atoms.length≤1000):∀(t:Mod.Form)(d:Nat)(c:Mod.dh)(fs:List Mod.Form),aJ t d=true→inside atoms t→(atoms.length:Int)≤c.many→c.many+2 ^ d≤10000→c.list.length+4*2 ^ d≤80000→fs.length+2 ^ d≤80000 →
 C E.P 97 [.ptr 0 0,av (df t)] [some (.box [iv c.many,.acc 1,lv (aK atoms),.acc 2]),some (.acc 29 (bq c.list)),some (.acc 36 (a7 fs))] (bB (iv (a6 atoms t c).2) [some (.box [iv (a6 atoms t c).1.many,.acc 3,lv (aK atoms),.acc 4]),some .dead,some .dead,some (.acc 29 (bq (a6 atoms t c).1.list)),some (.acc 36 (a7 (fs++cq t)))]):=
 Form.ind fun k x ks ih d c fs h1 h2 h3 h4 h5 h6=>uy atoms fJ (.mk k x ks) ih d c fs h1 h2 h3 h4 h5 h6
theorem Av{list:List Mod.Form}{i:Nat}(h:i<list.length):ez (list.drop i)=cq list[i]++ez (list.drop (i+1)):=by
 rw[List.drop_eq_getElem_cons h,ez]
theorem ry(list:List Mod.Form)(atoms:List Atom)(h:bZ list=some atoms):C E.P 50 [lv (a7 list)] [] (bB (.gL [.ptr 0 0,bv true]) [some (.box [iv (gW list).many,.acc 1,lv (aK atoms),.acc 2]),some (.acc 29 (bq (gW list).list)),some (.acc 36 (a7 (ez list)))]):=by
 obtain⟨p1,p2,p3,p4⟩:=dw h
 have e:=jU h
 rw[e]
 refine gS (nt:=36) (rs:=[.tmp 2,.tmp 3]) hm Tryz.func50 fun hl he cx=>?_
 have hc:=jw list
 rw[h] at hc
 simp only[Option.getD_some,Option.isSome_some] at hc
 refine aC [] hc ?_
 refine lP hm (fun(i:Nat) (c:Mod.dh) (fs:List Mod.Form)=> i≤list.length∧(atoms.length:Int)≤c.many∧c.many≤6+31*i∧c.list.length≤125*i∧fO atoms list ⟨atoms.length,[]⟩=fO atoms (list.drop i) c∧fs.length≤31*i∧ez list=fs++ez (list.drop i)) (fun(i:Nat) (c:Mod.dh) (fs:List Mod.Form)=> ⟨eE 36 .any [(6,.ptr 0 0),(22,lv (a7 list)),(23,iv list.length),(24,iv i)],[some (.box [iv c.many,.acc 1,lv (aK atoms),.acc 2]),some (.acc 29 (bq c.list)),some (.acc 36 (a7 fs))]⟩) (fun(i:Nat) (c:Mod.dh) (fs:List Mod.Form)=> list.length-i) (0) (⟨atoms.length,[]⟩) ([]) ?_ (ax [some 0,none,none] ?_ ?_ rfl rfl) ?_
 rotate_left
 ·exact sC
 ·exact sC
 rotate_left
 ·exact⟨by omega,by simp only;omega,by simp only;omega,by simp,rfl,by simp,rfl⟩
 ·rintro i c fs ⟨hi,b1,b2,b3,hg,b4,hn⟩
  rcases aa (i<list.length) with h1|h1
  ·obtain⟨q0,q1,q2,q3,q4,q5,q6,q7,q8⟩:=FP h h1 b1 b2 b3
   have q9:=nK list[i] 5 q3
   have q10:=gl list[i] 5 q3
   rw[Dm h1] at hg
   rw[Av h1,←List.append_assoc] at hn
   have cf:=wV atoms (by omega) list[i] 5 c fs q3 q4 b1 (by omega) (by omega) (by omega)
   have ca:=dq (a6 atoms list[i] c).1 atoms (fs++cq list[i]) [(a6 atoms list[i] c).2] (by simp) (by simp) (by simp;omega) (by omega)
   simp only[b9,cY] at ca
   refine uA ?_
   refine b7 [] [0,1,2,4,5] cf ?_ ?_
   ·refine sA ?_
    first|rfl|((repeat' apply aH)<;>rfl)
   refine sA ?_
   refine b7 [] [0,4,5,6] ca ?_ ?_
   ·refine sA ?_
    first|rfl|((repeat' apply aH)<;>rfl)
   refine sA ?_
   refine sQ ?_
   refine⟨i+1,cj (a6 atoms list[i] c).1 [(a6 atoms list[i] c).2],fs++cq list[i],?_,sL,ax [some 0,some 6,some 5] ?_ ?_ rfl rfl⟩
   rotate_left
   ·exact sC
   ·exact sC
   exact⟨by omega,q6,q7,q8,hg,by rw[an];omega,hn⟩
  ·rw[ag (by omega),fO] at hg
   rw[ag (by omega),ez,bz] at hn
   rw[hg,hn]
   refine uA ?_
   refine bu [some 0,some 1,some 2] ?_ rfl rfl
   exact sC
theorem uW(list:List Mod.Form)(atoms:List Atom)(h:bZ list=some atoms)(ls:List Mod.rl)(yV:ls.length≤64)(hs9:∀l∈ls,hH l.marks atoms.length=true∧l.marks≠[]):C E.P 24 [lv (a7 list),lv (je ls)] [] (bB (.gL [av (Ga (nM (gW list) ls)),bv true]) []):=by
 obtain⟨p1,p2,p3,p4⟩:=dw h
 have hn:¬ (64:Int)<(ls.length:Int):=by omega
 have db:=Ge list
 refine gS (nt:=48) (rs:=[.cell 4 67,.tmp 5]) hm Tryz.func24 fun hl he cx=>?_
 refine oC [] [1,2,3] (ry list atoms h) ?_
 simp -implicitDefEqProofs only[go_sem,hn]
 refine o5 hm (fun(i:Nat) (b:Mod.dh)=> i≤ls.length∧b.list.length≤1000+i∧nM (gW list) ls=nM b (ls.drop i)) (fun(i:Nat) (b:Mod.dh)=> ⟨eE 48 .any [(4,.ptr 0 0),(6,.ptr 1 0),(23,lv (je ls)),(24,iv ls.length),(25,iv i)],[some (.box [iv 0,.aY]),some (.box [iv b.many,.acc 2,lv (aK atoms),.acc 3]),some (.acc 29 (bq b.list)),some (.acc 36 (a7 (ez list)))]⟩) (fun(i:Nat) (b:Mod.dh)=> ls.length-i) (0) (gW list) ?_ (ax [some 0,some 1,some 2,some 3] ?_ ?_ rfl rfl) ?_
 rotate_left
 ·exact sC
 ·exact sC
 rotate_left
 ·exact⟨by omega,by omega,rfl⟩
 ·rintro i b ⟨hi,b1,hg⟩
  rcases aa (i<ls.length) with h1|h1
  ·obtain⟨q1,q2⟩:=hs9 ls[i] (ai h1)
   have q3:=Iv q1 p3
   have q4:=nT q1
   have a1:=cO b (ls[i].marks.map fun m=>-m)
   rw[BL h1] at hg
   have hc:=qR ls[i].marks atoms (by omega)
   rw[q1] at hc
   refine uA ?_
   refine aC [] hc ?_
   refine iK ?_
   refine aC [] (lJ ls[i].marks (by omega) (fun x hx=>by have:=q4 x hx;omega)) ?_
   refine b7 [] [1,2,3,5] (dq b atoms (ez list) (ls[i].marks.map fun m=>-m) (by simpa using q2) (by rw[List.length_map];omega) (fun x hx=>by obtain⟨m,hm1,hm2⟩:=List.mem_map.1 hx;have:=q4 m hm1;omega) (by omega)) ?_ ?_
   ·refine sA ?_
    first|rfl|((repeat' apply aH)<;>rfl)
   refine sA ?_
   refine sQ ?_
   refine⟨i+1,cj b (ls[i].marks.map fun m=>-m),?_,sL,ax [some 0,some 1,some 5,some 3] ?_ ?_ rfl rfl⟩
   rotate_left
   ·exact sC
   ·exact sC
   exact⟨by omega,by omega,hg⟩
  ·rw[ag (by omega),nM] at hg
   rw[hg]
   refine uA ?_
   refine al ?_
   exact sC
end Go.Proofs.YtgpjhjalfakpoaaGreat
