/-
  The reference: the walks of what is drawn: forms, one in sixteen bent; lists of forms; what is so. A step towards the laws.
-/
import Derived.Test.YtgpjhjalfakpoaaGreatKByb
import Derived.Test.YtgpjhjalfakpoaaGreatKBj
set_option linter.unusedVariables false
set_option linter.unusedSimpArgs false
open And renaming intro→ay
open Classical renaming em→aa
open List renaming mem_append→aG,mem_singleton→bX
namespace Go.Proofs.YtgpjhjalfakpoaaGreat
open Go.Eng Go.Mod
open Int renaming reduceEq→Z1,reduceLT→Z2,reduceLE→Z3,reduceToNat→Z4
set_option maxRecDepth 100000
set_option maxHeartbeats 800000
theorem wW:∀(ts:List Mod.Form),ts.length≤mW ts
 | []=>by simp[mW]
 | t::ts=>by
   have h1:=wW ts
   have h2:1≤nodes t:=by cases t;simp[nodes]
   simp only[mW,List.length_cons]
   omega
theorem Ec(t:Mod.Form):t.kids.length≤nodes t:=by
 cases t with
 | mk k l ks=>
   have:=wW ks
   simp only[Form.kids,nodes]
   omega
def yN(s:eJ):Prop:=s.syms.length≤100∧∀x∈s.syms,x.args.length≤1000
theorem gC{s:eJ}(h:c7 s):yN s:=⟨by have:=h.1;omega,fun x hx=>by have:=(h.2 x hx).1;omega⟩
theorem xz(b:List Int):∀(n:Nat)(l:List Sym)(p:Int),(∀x∈l,x.args.length≤1000)→∀x∈(oh b n l p).1,x.args.length≤1000
 | 0,_,_,h=>h
 | n+1,l,p,h=>xz b n _ _ fun x hx=>by
   rcases aG.1 hx with hx|hx
   ·exact h x hx
   ·rw[bX.1 hx];simp
theorem mE{b:List Int}{s:eJ}(h:c7 s)(p:Int):yN (dK b s p).1:=by
 have h0:=gC h
 obtain⟨h1,h2⟩:=h
 have hx:∀k,(s.syms.getD k ⟨[],[],0⟩).args.length≤2:=by
  intro k
  rw[List.getD_eq_getElem?_getD]
  cases hk:s.syms[k]? with
  | none=>simp
  | some x=>exact(h2 x (List.mem_of_getElem? hk)).1
 have hset:∀(k:Nat)(x:Sym),x.args.length≤1000→yN ⟨s.syms.set k x⟩:=fun k x hx=>⟨by simp;omega,fun y hy=>by
  rcases List.mem_or_eq_of_mem_set hy with hy|rfl
  ·exact h0.2 y hy
  ·exact hx⟩
 unfold dK
 simp only
 split
 ·exact h0
 ·split
  ·exact h0
  ·generalize hk:(bo b (p+1) s.syms.length).toNat=k
   have hxk:=hx k
   split
   ·exact hset _ _ (by simp only;omega)
   ·split
    ·exact hset _ _ (by simp only[List.length_append,List.length_singleton];omega)
    ·split
     ·exact hset _ _ (by simp only;omega)
     ·split
      ·refine⟨by simp;omega,fun y hy=>?_⟩
       rcases aG.1 hy with hy|hy
       ·exact h0.2 y hy
       ·rw[bX.1 hy];omega
      ·refine⟨by have:=(AQ b (8-s.syms.length) s.syms (p+3)).2;simp only;omega,xz b _ _ _ h0.2⟩
theorem y2(b:List Int)(hb:nh b)(s:eJ)(hs:c7 s)(p:Int)(h1:0≤p)(h2:p≤800000000) :
 C E.P 38 [.ptr 0 0,av (dc s)] [some (la b p)] (bw (av (dS (Aa b s p).1)) [some (la b (Aa b s p).2)]):=by
 have hO:=po b hb s hs p h1 (by omega)
 obtain⟨z1,z2,z3⟩:=EV hb hs h1
 obtain⟨y,e0⟩:∃y,Aa b s p=y:=⟨_,rfl⟩
 have ee:=e0
 unfold Aa at ee
 simp only at ee
 obtain⟨r,hr⟩:∃r,jK b s p=r:=⟨_,rfl⟩
 rw[hr] at ee hO z1 z2 z3
 have hfew:=z3.OP
 have qr:r.2+1+1=r.2+2:=by omega
 have cZ:=z3.len
 rw[e0,←ee]
 refine gT (nt:=52) (rs:=[.cell 4 31]) hm Tryz.func38 fun hl he cp=>?_
 refine oD [] [0,3,4] hO ?_
 refine sJ ?_
 refine oD [] [0] (eO b r.2 80 hb (by omega) (by omega)) ?_
 refine sI ?_
 rcases aa (bo b r.2 80=0) with c0|c0
 ·have k0:=eq_true c0
  rw[if_pos c0]
  try simp -implicitDefEqProofs only[go_sem,Z1,Z2,Z3,Z4,k0]
  refine sI ?_
  refine bT [] [0] (jh b (r.2+1) [0,3,1,2] hb (by omega) (by omega) (by simp) (by simp)) ?_ ?_<;>simp -implicitDefEqProofs only[go_sem,Z1,Z2,Z3,Z4,qr]
  refine sI ?_
  refine bh [some 0] ?_ rfl rfl
  refine sB ?_
  repeat' apply ay
  all_goals rfl
 rw[if_neg c0]
 rcases aa (bo b r.2 80=1) with c1|c1
 ·have k1:=eq_true c1
  rw[if_pos c1]
  try simp -implicitDefEqProofs only[go_sem,Z1,Z2,Z3,Z4,c0,k1]
  refine sI ?_
  refine bT [] [0] (jh b (r.2+1) [1001,-9223372036854775808,5] hb (by omega) (by omega) (by simp) (by simp)) ?_ ?_<;>simp -implicitDefEqProofs only[go_sem,Z1,Z2,Z3,Z4,qr]
  refine sI ?_
  refine bh [some 0] ?_ rfl rfl
  refine sB ?_
  repeat' apply ay
  all_goals rfl
 rw[if_neg c1]
 rcases aa (bo b r.2 80=2) with c2|c2
 ·have k2:=eq_true c2
  rw[if_pos c2]
  try simp -implicitDefEqProofs only[go_sem,Z1,Z2,Z3,Z4,c0,c1,k2]
  refine sI ?_
  refine oD [] [0] (zo b hb s hs (r.2+1) (by omega) (by omega)) ?_
  refine sI ?_
  refine bh [some 0] ?_ rfl rfl
  refine sB ?_
  repeat' apply ay
  all_goals rfl
 rw[if_neg c2]
 rcases aa (bo b r.2 80=3) with c3|c3
 ·have k3:=eq_true c3
  rw[if_pos c3]
  rcases aa ((0:Int)<(r.1.times.length:Int)) with h5|h5
  ·have h5n:0<r.1.times.length:=by omega
   rw[if_pos h5n]
   try simp -implicitDefEqProofs only[go_sem,Z1,Z2,Z3,Z4,c0,c1,c2,k3,h5]
   refine sI ?_
   refine bT [] [0] (jh b (r.2+1) [0,51,-9223372036854775808] hb (by omega) (by omega) (by simp) (by simp)) ?_ ?_<;>simp -implicitDefEqProofs only[go_sem,Z1,Z2,Z3,Z4,h5n,qr]
   refine sJ ?_
   refine bh [some 0] ?_ rfl rfl
   refine sB ?_
   repeat' apply ay
   all_goals first|rfl|exact(tW h5n).symm
  ·have h5n:¬0<r.1.times.length:=by omega
   rw[if_neg h5n]
   try simp -implicitDefEqProofs only[go_sem,Z1,Z2,Z3,Z4,c0,c1,c2,k3,h5]
   refine sI ?_
   refine bh [some 0] ?_ rfl rfl
   refine sB ?_
   repeat' apply ay
   all_goals rfl
 rw[if_neg c3]
 rcases aa (bo b r.2 80=4) with c4|c4
 ·have k4:=eq_true c4
  rw[if_pos c4]
  try simp -implicitDefEqProofs only[go_sem,Z1,Z2,Z3,Z4,c0,c1,c2,c3,k4]
  refine sI ?_
  refine oD [] [0] (lA b hb s hs 1 1 (r.2+1) (by omega) (by omega) (by omega)) ?_
  refine sJ ?_
  refine bh [some 0] ?_ rfl rfl
  refine sB ?_
  repeat' apply ay
  all_goals first|rfl|exact(jX _ _).symm
 ·rw[if_neg c4]
  try simp -implicitDefEqProofs only[go_sem,Z1,Z2,Z3,Z4,c0,c1,c2,c3,c4]
  refine sI ?_
  refine bh [some 0] ?_ rfl rfl
  refine sB ?_
  repeat' apply ay
  all_goals rfl
theorem mY(b:List Int)(hb:nh b)(p:Int)(h1:0≤p)(h2:p≤600000000):C E.P 13 [.ptr 0 0] [some (la b p)] (bw (.gN [av (dc (rL b p).1),av (cx (rL b p).2.1)]) [some (la b (rL b p).2.2)]):=by
 have cD:=yS b hb p h1 (by omega)
 obtain⟨z1,z2,z3,z4⟩:=Kk hb h1
 obtain⟨y,e0⟩:∃y,rL b p=y:=⟨_,rfl⟩
 have ee:=e0
 unfold rL at ee
 simp only at ee
 obtain⟨r,hr⟩:∃r,om b p=r:=⟨_,rfl⟩
 rw[hr] at ee cD z1 z2 z3 z4
 obtain⟨s,f,q⟩:=r
 simp only at ee cD z1 z2 z3 z4
 have hkl:=Ec f
 have hkall:=nJ f.kids
 rw[e0,←ee]
 refine gT (nt:=47) (rs:=[.cell 2 25,.cell 3 36]) hm Tryz.func13 fun hl he cp=>?_
 refine oD [] [0] cD ?_
 refine sI ?_
 refine oD [] [0] (eO b q 64 hb (by omega) (by omega)) ?_
 refine sI ?_
 rcases aa (bo b q 64=0) with c0|c0
 ·have k0:=eq_true c0
  have qr:q+1+1=q+2:=by omega
  rw[if_pos c0]
  try simp -implicitDefEqProofs only[go_sem,Z1,Z2,Z3,Z4,k0]
  refine sI ?_
  refine bT [] [0] (jh b (q+1) [0,7,1,2,3] hb (by omega) (by omega) (by simp) (by simp)) ?_ ?_<;>simp -implicitDefEqProofs only[go_sem,Z1,Z2,Z3,Z4,qr]
  refine sI ?_
  refine bh [some 0] ?_ rfl rfl
  refine sB ?_
  repeat' apply ay
  all_goals rfl
 rw[if_neg c0]
 rcases aa (bo b q 64=1) with c1|c1
 ·have k1:=eq_true c1
  rw[if_pos c1]
  try simp -implicitDefEqProofs only[go_sem,Z1,Z2,Z3,Z4,c0,k1]
  refine sJ ?_
  refine bh [some 0] ?_ rfl rfl
  refine sB ?_
  have e:aN f.kids++[cx f]=aN (f.kids++[f]):=by rw[←jM,dt,fG]
  repeat' apply ay
  all_goals first|rfl|exact e.symm
 rw[if_neg c1]
 rcases aa (bo b q 64=2) with c2|c2
 ·have k2:=eq_true c2
  rw[if_pos c2]
  try simp -implicitDefEqProofs only[go_sem,Z1,Z2,Z3,Z4,c0,c1,k2]
  refine sI ?_
  refine oD [] [0] (y2 b hb s z4 (q+1) (by omega) (by omega)) ?_
  refine sI ?_
  refine bh [some 0] ?_ rfl rfl
  refine sB ?_
  repeat' apply ay
  all_goals rfl
 rw[if_neg c2]
 rcases aa (bo b q 64=3) with c3|c3
 ·have k3:=eq_true c3
  rw[if_pos c3]
  have g1:=vY b s (q+1)
  have g2:=mE (b:=b) z4 (q+1)
  try simp -implicitDefEqProofs only[go_sem,Z1,Z2,Z3,Z4,c0,c1,c2,k3]
  refine sI ?_
  refine oD [] [0] (fg b hb s (gC z4).1 (gC z4).2 (q+1) (by omega) (by omega)) ?_
  refine sI ?_
  refine oD [] [0] (fg b hb (dK b s (q+1)).1 g2.1 g2.2 (dK b s (q+1)).2 (by omega) (by omega)) ?_
  refine sI ?_
  refine bh [some 0] ?_ rfl rfl
  simp -implicitDefEqProofs only[go_sem,Z1,Z2,Z3,Z4]
  repeat' apply ay
  all_goals rfl
 ·rw[if_neg c3]
  try simp -implicitDefEqProofs only[go_sem,Z1,Z2,Z3,Z4,c0,c1,c2,c3]
  refine sI ?_
  refine bh [some 0] ?_ rfl rfl
  simp -implicitDefEqProofs only[go_sem,Z1,Z2,Z3,Z4]
  repeat' apply ay
  all_goals rfl
end Go.Proofs.YtgpjhjalfakpoaaGreat
namespace Go.Proofs.YtgpjhjalfakpoaaGreat
open Go.Eng Go.Mod
set_option maxRecDepth 100000
set_option maxHeartbeats 400000
theorem kB(us:List Mod.Form)(t:Mod.Form):aN us++[cx t]=aN (us++[t]):=by rw[←jM,dt,fG]
end Go.Proofs.YtgpjhjalfakpoaaGreat
