/-
  The reference: the walks of what is drawn: forms, one in sixteen bent; lists of forms; what is so. A step towards the laws.
-/
import Derived.Test.YtabembjmeobhoaaGreatKDf
import Derived.Test.YtabembjmeobhoaaGreatKDyb
set_option linter.unusedVariables false
set_option linter.unusedSimpArgs false
open And renaming intro→au
open Classical renaming em→aa
open List renaming mem_append→aP,mem_singleton→fb
namespace Go.Proofs.YtabembjmeobhoaaGreat
open Go.Eng Go.Mod
open Int renaming reduceEq→Z1,reduceLT→Z2,reduceLE→Z3,reduceToNat→Z4
set_option maxRecDepth 100000
set_option maxHeartbeats 800000
def HE(s:dK):Prop:=s.syms.length≤100∧∀x∈s.syms,x.args.length≤1000
theorem AA{s:dK}(h:fM s):HE s:=⟨by have:=h.1;omega,fun x hx=>by have:=(h.2 x hx).1;omega⟩
theorem Hm(b:List Int):∀(n:Nat)(l:List Sym)(p:Int),(∀x∈l,x.args.length≤1000)→∀x∈(wx b n l p).1,x.args.length≤1000
 | 0,_,_,h=>h
 | n+1,l,p,h=>Hm b n _ _ fun x hx=>by
   rcases aP.1 hx with hx|hx
   ·exact h x hx
   ·rw[fb.1 hx];simp
theorem M6{b:List Int}{s:dK}(h:fM s)(p:Int):HE (ji b s p).1:=by
 have h0:=AA h
 obtain⟨h1,h2⟩:=h
 have hx:∀k,(s.syms.getD k ⟨[],[],0⟩).args.length≤2:=by
  intro k
  rw[List.getD_eq_getElem?_getD]
  cases hk:s.syms[k]? with
  | none=>simp
  | some x=>exact(h2 x (List.mem_of_getElem? hk)).1
 have hset:∀(k:Nat)(x:Sym),x.args.length≤1000→HE ⟨s.syms.set k x⟩:=fun k x hx=>⟨by simp;omega,fun y hy=>by
  rcases List.mem_or_eq_of_mem_set hy with hy|rfl
  ·exact h0.2 y hy
  ·exact hx⟩
 unfold ji
 simp only
 split
 ·exact h0
 ·split
  ·exact h0
  ·generalize hk:(dk b (p+1) s.syms.length).toNat=k
   have hxk:=hx k
   split
   ·exact hset _ _ (by simp only;omega)
   ·split
    ·exact hset _ _ (by simp only[List.length_append,List.length_singleton];omega)
    ·split
     ·exact hset _ _ (by simp only;omega)
     ·split
      ·refine⟨by simp;omega,fun y hy=>?_⟩
       rcases aP.1 hy with hy|hy
       ·exact h0.2 y hy
       ·rw[fb.1 hy];omega
      ·refine⟨by have:=(KA b (8-s.syms.length) s.syms (p+3)).2;simp only;omega,Hm b _ _ _ h0.2⟩
theorem Iq(b:List Int)(hb:yU b)(s:dK)(hs:fM s)(p:Int)(h1:0≤p)(h2:p≤800000000) :
 C E.P 91 [.ptr 0 0,av (dV s)] [some (uj b p)] (bz (av (fT (Dp b s p).1)) [some (uj b (Dp b s p).2)]):=by
 have hO:=xF b hb s hs p h1 (by omega)
 obtain⟨z1,z2,z3⟩:=Pm hb hs h1
 obtain⟨y,e0⟩:∃y,Dp b s p=y:=⟨_,rfl⟩
 have ee:=e0
 unfold Dp at ee
 simp only at ee
 obtain⟨r,hr⟩:∃r,nV b s p=r:=⟨_,rfl⟩
 rw[hr] at ee hO z1 z2 z3
 have hfew:=z3.few
 have qr:r.2+1+1=r.2+2:=by omega
 have dy:=z3.len
 rw[e0,←ee]
 refine gT (nt:=52) (rs:=[.cell 4 47]) hm Tryz.func91 fun hl he cq=>?_
 refine oD [] [0,3,4] hO ?_
 refine sJ ?_
 refine oD [] [0] (nk b r.2 80 hb (by omega) (by omega)) ?_
 refine sI ?_
 rcases aa (dk b r.2 80=0) with c0|c0
 ·have k0:=eq_true c0
  rw[if_pos c0]
  try simp -implicitDefEqProofs only[go_sem,Z1,Z2,Z3,Z4,k0]
  refine sI ?_
  refine gw [] [0] (tj b (r.2+1) [0,3,1,2] hb (by omega) (by omega) (by simp) (by simp)) ?_ ?_<;>simp -implicitDefEqProofs only[go_sem,Z1,Z2,Z3,Z4,qr]
  refine sI ?_
  refine bZ [some 0] ?_ rfl rfl
  refine sB ?_
  repeat' apply au
  all_goals rfl
 rw[if_neg c0]
 rcases aa (dk b r.2 80=1) with c1|c1
 ·have k1:=eq_true c1
  rw[if_pos c1]
  try simp -implicitDefEqProofs only[go_sem,Z1,Z2,Z3,Z4,c0,k1]
  refine sI ?_
  refine gw [] [0] (tj b (r.2+1) [1001,-9223372036854775808,5] hb (by omega) (by omega) (by simp) (by simp)) ?_ ?_<;>simp -implicitDefEqProofs only[go_sem,Z1,Z2,Z3,Z4,qr]
  refine sI ?_
  refine bZ [some 0] ?_ rfl rfl
  refine sB ?_
  repeat' apply au
  all_goals rfl
 rw[if_neg c1]
 rcases aa (dk b r.2 80=2) with c2|c2
 ·have k2:=eq_true c2
  rw[if_pos c2]
  try simp -implicitDefEqProofs only[go_sem,Z1,Z2,Z3,Z4,c0,c1,k2]
  refine sI ?_
  refine oD [] [0] (IH b hb s hs (r.2+1) (by omega) (by omega)) ?_
  refine sI ?_
  refine bZ [some 0] ?_ rfl rfl
  refine sB ?_
  repeat' apply au
  all_goals rfl
 rw[if_neg c2]
 rcases aa (dk b r.2 80=3) with c3|c3
 ·have k3:=eq_true c3
  rw[if_pos c3]
  rcases aa ((0:Int)<(r.1.times.length:Int)) with h5|h5
  ·have h5n:0<r.1.times.length:=by omega
   rw[if_pos h5n]
   try simp -implicitDefEqProofs only[go_sem,Z1,Z2,Z3,Z4,c0,c1,c2,k3,h5]
   refine sI ?_
   refine gw [] [0] (tj b (r.2+1) [0,51,-9223372036854775808] hb (by omega) (by omega) (by simp) (by simp)) ?_ ?_<;>simp -implicitDefEqProofs only[go_sem,Z1,Z2,Z3,Z4,h5n,qr]
   refine sJ ?_
   refine bZ [some 0] ?_ rfl rfl
   refine sB ?_
   repeat' apply au
   all_goals first|rfl|exact(Cr h5n).symm
  ·have h5n:¬0<r.1.times.length:=by omega
   rw[if_neg h5n]
   try simp -implicitDefEqProofs only[go_sem,Z1,Z2,Z3,Z4,c0,c1,c2,k3,h5]
   refine sI ?_
   refine bZ [some 0] ?_ rfl rfl
   refine sB ?_
   repeat' apply au
   all_goals rfl
 rw[if_neg c3]
 rcases aa (dk b r.2 80=4) with c4|c4
 ·have k4:=eq_true c4
  rw[if_pos c4]
  try simp -implicitDefEqProofs only[go_sem,Z1,Z2,Z3,Z4,c0,c1,c2,c3,k4]
  refine sI ?_
  refine oD [] [0] (rr b hb s hs 1 1 (r.2+1) (by omega) (by omega) (by omega)) ?_
  refine sJ ?_
  refine bZ [some 0] ?_ rfl rfl
  refine sB ?_
  repeat' apply au
  all_goals first|rfl|exact(pS _ _).symm
 ·rw[if_neg c4]
  try simp -implicitDefEqProofs only[go_sem,Z1,Z2,Z3,Z4,c0,c1,c2,c3,c4]
  refine sI ?_
  refine bZ [some 0] ?_ rfl rfl
  refine sB ?_
  repeat' apply au
  all_goals rfl
end Go.Proofs.YtabembjmeobhoaaGreat
