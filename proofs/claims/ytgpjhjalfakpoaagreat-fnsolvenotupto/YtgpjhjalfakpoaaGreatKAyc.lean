/-
  The reference: the walks of what is drawn: forms, one in sixteen bent; lists of forms; what is so. A step towards the laws.
-/
import Derived.Test.YtgpjhjalfakpoaaGreatKAyb
set_option linter.unusedVariables false
set_option linter.unusedSimpArgs false
open And renaming intro→aH
open Classical renaming em→aa
open List renaming mem_append→aE,mem_singleton→bU
namespace Go.Proofs.YtgpjhjalfakpoaaGreat
open Go.Eng Go.Mod
open Int renaming reduceEq→Z1,reduceLT→Z2,reduceLE→Z3,reduceToNat→Z4
set_option maxRecDepth 100000
set_option maxHeartbeats 800000
theorem v7:∀(ts:List Mod.Form),ts.length≤mC ts
 | []=>by simp[mC]
 | t::ts=>by
   have h1:=v7 ts
   have h2:1≤nodes t:=by cases t;simp[nodes]
   simp only[mC,List.length_cons]
   omega
theorem D5(t:Mod.Form):t.kids.length≤nodes t:=by
 cases t with
 | mk k l ks=>
   have:=v7 ks
   simp only[Form.kids,nodes]
   omega
def xS(s:eD):Prop:=s.syms.length≤100∧∀x∈s.syms,x.args.length≤1000
theorem qF{s:eD}(h:dc s):xS s:=⟨by have:=h.1;omega,fun x hx=>by have:=(h.2 x hx).1;omega⟩
theorem vZ(b:List Int):∀(n:Nat)(l:List Sym)(p:Int),(∀x∈l,x.args.length≤1000)→∀x∈(n8 b n l p).1,x.args.length≤1000
 | 0,_,_,h=>h
 | n+1,l,p,h=>vZ b n _ _ fun x hx=>by
   rcases aE.1 hx with hx|hx
   ·exact h x hx
   ·rw[bU.1 hx];simp
theorem CN{b:List Int}{s:eD}(h:dc s)(p:Int):xS (fQ b s p).1:=by
 have h0:=qF h
 obtain⟨h1,h2⟩:=h
 have hx:∀k,(s.syms.getD k ⟨[],[],0⟩).args.length≤2:=by
  intro k
  rw[List.getD_eq_getElem?_getD]
  cases hk:s.syms[k]? with
  | none=>simp
  | some x=>exact(h2 x (List.mem_of_getElem? hk)).1
 have hset:∀(k:Nat)(x:Sym),x.args.length≤1000→xS ⟨s.syms.set k x⟩:=fun k x hx=>⟨by simp;omega,fun y hy=>by
  rcases List.mem_or_eq_of_mem_set hy with hy|rfl
  ·exact h0.2 y hy
  ·exact hx⟩
 unfold fQ
 simp only
 split
 ·exact h0
 ·split
  ·exact h0
  ·generalize hk:(bF b (p+1) s.syms.length).toNat=k
   have hxk:=hx k
   split
   ·exact hset _ _ (by simp only;omega)
   ·split
    ·exact hset _ _ (by simp only[List.length_append,List.length_singleton];omega)
    ·split
     ·exact hset _ _ (by simp only;omega)
     ·split
      ·refine⟨by simp;omega,fun y hy=>?_⟩
       rcases aE.1 hy with hy|hy
       ·exact h0.2 y hy
       ·rw[bU.1 hy];omega
      ·refine⟨by have:=(Ar b (8-s.syms.length) s.syms (p+3)).2;simp only;omega,vZ b _ _ _ h0.2⟩
theorem yq(b:List Int)(hb:oa b)(s:eD)(hs:dc s)(p:Int)(h1:0≤p)(h2:p≤800000000) :
 C E.P 38 [.ptr 0 0,av (c8 s)] [some (lq b p)] (bB (av (dJ (yZ b s p).1)) [some (lq b (yZ b s p).2)]):=by
 have hO:=oA b hb s hs p h1 (by omega)
 obtain⟨z1,z2,z3⟩:=CX hb hs h1
 obtain⟨y,e0⟩:∃y,yZ b s p=y:=⟨_,rfl⟩
 have ee:=e0
 unfold yZ at ee
 simp only at ee
 obtain⟨r,hr⟩:∃r,jA b s p=r:=⟨_,rfl⟩
 rw[hr] at ee hO z1 z2 z3
 have hfew:=z3.NR
 have qr:r.2+1+1=r.2+2:=by omega
 have db:=z3.len
 rw[e0,←ee]
 refine gT (nt:=52) (rs:=[.cell 4 31]) hm Tryz.func38 fun hl he cx=>?_
 refine oD [] [0,3,4] hO ?_
 refine sJ ?_
 refine oD [] [0] (fD b r.2 80 hb (by omega) (by omega)) ?_
 refine sI ?_
 rcases aa (bF b r.2 80=0) with c0|c0
 ·have k0:=eq_true c0
  rw[if_pos c0]
  try simp -implicitDefEqProofs only[go_sem,Z1,Z2,Z3,Z4,k0]
  refine sI ?_
  refine b7 [] [0] (kj b (r.2+1) [0,3,1,2] hb (by omega) (by omega) (by simp) (by simp)) ?_ ?_<;>simp -implicitDefEqProofs only[go_sem,Z1,Z2,Z3,Z4,qr]
  refine sI ?_
  refine bu [some 0] ?_ rfl rfl
  refine sB ?_
  repeat' apply aH
  all_goals rfl
 rw[if_neg c0]
 rcases aa (bF b r.2 80=1) with c1|c1
 ·have k1:=eq_true c1
  rw[if_pos c1]
  try simp -implicitDefEqProofs only[go_sem,Z1,Z2,Z3,Z4,c0,k1]
  refine sI ?_
  refine b7 [] [0] (kj b (r.2+1) [1001,-9223372036854775808,5] hb (by omega) (by omega) (by simp) (by simp)) ?_ ?_<;>simp -implicitDefEqProofs only[go_sem,Z1,Z2,Z3,Z4,qr]
  refine sI ?_
  refine bu [some 0] ?_ rfl rfl
  refine sB ?_
  repeat' apply aH
  all_goals rfl
 rw[if_neg c1]
 rcases aa (bF b r.2 80=2) with c2|c2
 ·have k2:=eq_true c2
  rw[if_pos c2]
  try simp -implicitDefEqProofs only[go_sem,Z1,Z2,Z3,Z4,c0,c1,k2]
  refine sI ?_
  refine oD [] [0] (yt b hb s hs (r.2+1) (by omega) (by omega)) ?_
  refine sI ?_
  refine bu [some 0] ?_ rfl rfl
  refine sB ?_
  repeat' apply aH
  all_goals rfl
 rw[if_neg c2]
 rcases aa (bF b r.2 80=3) with c3|c3
 ·have k3:=eq_true c3
  rw[if_pos c3]
  rcases aa ((0:Int)<(r.1.times.length:Int)) with h5|h5
  ·have h5n:0<r.1.times.length:=by omega
   rw[if_pos h5n]
   try simp -implicitDefEqProofs only[go_sem,Z1,Z2,Z3,Z4,c0,c1,c2,k3,h5]
   refine sI ?_
   refine b7 [] [0] (kj b (r.2+1) [0,51,-9223372036854775808] hb (by omega) (by omega) (by simp) (by simp)) ?_ ?_<;>simp -implicitDefEqProofs only[go_sem,Z1,Z2,Z3,Z4,h5n,qr]
   refine sJ ?_
   refine bu [some 0] ?_ rfl rfl
   refine sB ?_
   repeat' apply aH
   all_goals first|rfl|exact(sN h5n).symm
  ·have h5n:¬0<r.1.times.length:=by omega
   rw[if_neg h5n]
   try simp -implicitDefEqProofs only[go_sem,Z1,Z2,Z3,Z4,c0,c1,c2,k3,h5]
   refine sI ?_
   refine bu [some 0] ?_ rfl rfl
   refine sB ?_
   repeat' apply aH
   all_goals rfl
 rw[if_neg c3]
 rcases aa (bF b r.2 80=4) with c4|c4
 ·have k4:=eq_true c4
  rw[if_pos c4]
  try simp -implicitDefEqProofs only[go_sem,Z1,Z2,Z3,Z4,c0,c1,c2,c3,k4]
  refine sI ?_
  refine oD [] [0] (k8 b hb s hs 1 1 (r.2+1) (by omega) (by omega) (by omega)) ?_
  refine sJ ?_
  refine bu [some 0] ?_ rfl rfl
  refine sB ?_
  repeat' apply aH
  all_goals first|rfl|exact(jO _ _).symm
 ·rw[if_neg c4]
  try simp -implicitDefEqProofs only[go_sem,Z1,Z2,Z3,Z4,c0,c1,c2,c3,c4]
  refine sI ?_
  refine bu [some 0] ?_ rfl rfl
  refine sB ?_
  repeat' apply aH
  all_goals rfl
theorem yf(b:List Int)(hb:oa b)(p:Int)(h1:0≤p)(h2:p≤600000000):C E.P 13 [.ptr 0 0] [some (lq b p)] (bB (.gL [av (c8 (pK b p).1),av (df (pK b p).2.1)]) [some (lq b (pK b p).2.2)]):=by
 have cD:=yj b hb p h1 (by omega)
 obtain⟨z1,z2,z3,z4⟩:=KV hb h1
 obtain⟨y,e0⟩:∃y,pK b p=y:=⟨_,rfl⟩
 have ee:=e0
 unfold pK at ee
 simp only at ee
 obtain⟨r,hr⟩:∃r,nP b p=r:=⟨_,rfl⟩
 rw[hr] at ee cD z1 z2 z3 z4
 obtain⟨s,f,q⟩:=r
 simp only at ee cD z1 z2 z3 z4
 have hkl:=D5 f
 have hkall:=rj f.kids
 rw[e0,←ee]
 refine gT (nt:=47) (rs:=[.cell 2 25,.cell 3 36]) hm Tryz.func13 fun hl he cx=>?_
 refine oD [] [0] cD ?_
 refine sI ?_
 refine oD [] [0] (fD b q 64 hb (by omega) (by omega)) ?_
 refine sI ?_
 rcases aa (bF b q 64=0) with c0|c0
 ·have k0:=eq_true c0
  have qr:q+1+1=q+2:=by omega
  rw[if_pos c0]
  try simp -implicitDefEqProofs only[go_sem,Z1,Z2,Z3,Z4,k0]
  refine sI ?_
  refine b7 [] [0] (kj b (q+1) [0,7,1,2,3] hb (by omega) (by omega) (by simp) (by simp)) ?_ ?_<;>simp -implicitDefEqProofs only[go_sem,Z1,Z2,Z3,Z4,qr]
  refine sI ?_
  refine bu [some 0] ?_ rfl rfl
  refine sB ?_
  repeat' apply aH
  all_goals rfl
 rw[if_neg c0]
 rcases aa (bF b q 64=1) with c1|c1
 ·have k1:=eq_true c1
  rw[if_pos c1]
  try simp -implicitDefEqProofs only[go_sem,Z1,Z2,Z3,Z4,c0,k1]
  refine sJ ?_
  refine bu [some 0] ?_ rfl rfl
  refine sB ?_
  have e:a7 f.kids++[df f]=a7 (f.kids++[f]):=by rw[←nA,gE,jl]
  repeat' apply aH
  all_goals first|rfl|exact e.symm
 rw[if_neg c1]
 rcases aa (bF b q 64=2) with c2|c2
 ·have k2:=eq_true c2
  rw[if_pos c2]
  try simp -implicitDefEqProofs only[go_sem,Z1,Z2,Z3,Z4,c0,c1,k2]
  refine sI ?_
  refine oD [] [0] (yq b hb s z4 (q+1) (by omega) (by omega)) ?_
  refine sI ?_
  refine bu [some 0] ?_ rfl rfl
  refine sB ?_
  repeat' apply aH
  all_goals rfl
 rw[if_neg c2]
 rcases aa (bF b q 64=3) with c3|c3
 ·have k3:=eq_true c3
  rw[if_pos c3]
  have g1:=J6 b s (q+1)
  have g2:=CN (b:=b) z4 (q+1)
  try simp -implicitDefEqProofs only[go_sem,Z1,Z2,Z3,Z4,c0,c1,c2,k3]
  refine sI ?_
  refine oD [] [0] (p8 b hb s (qF z4).1 (qF z4).2 (q+1) (by omega) (by omega)) ?_
  refine sI ?_
  refine oD [] [0] (p8 b hb (fQ b s (q+1)).1 g2.1 g2.2 (fQ b s (q+1)).2 (by omega) (by omega)) ?_
  refine sI ?_
  refine bu [some 0] ?_ rfl rfl
  simp -implicitDefEqProofs only[go_sem,Z1,Z2,Z3,Z4]
  repeat' apply aH
  all_goals rfl
 ·rw[if_neg c3]
  try simp -implicitDefEqProofs only[go_sem,Z1,Z2,Z3,Z4,c0,c1,c2,c3]
  refine sI ?_
  refine bu [some 0] ?_ rfl rfl
  simp -implicitDefEqProofs only[go_sem,Z1,Z2,Z3,Z4]
  repeat' apply aH
  all_goals rfl
end Go.Proofs.YtgpjhjalfakpoaaGreat
