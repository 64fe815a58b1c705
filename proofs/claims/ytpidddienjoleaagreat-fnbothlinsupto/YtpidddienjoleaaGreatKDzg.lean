/-
  The program: the walk of closures. A step towards the laws.
-/
import Derived.Test.YtpidddienjoleaaGreatKDH
import Derived.Test.YtpidddienjoleaaGreatKDEk
import Derived.Test.YtpidddienjoleaaGreatKDEl
set_option linter.unusedVariables false
set_option linter.unusedSimpArgs false
namespace Go.Proofs.YtpidddienjoleaaGreat
open Go.Eng Go.Mod
open Int renaming reduceEq→Z1,reduceLT→Z2,reduceLE→Z3,reduceToNat→Z4
set_option maxRecDepth 100000
set_option maxHeartbeats 3200000
def R3(parts:List Term)(c:List Nat)(steps:List Step):List D:=[.bx (aj parts),.bx (aP c),.bx (ax steps)]
attribute [go_sem] R3
theorem uP(parts:List Term)(c:List Nat)(steps:List Step)(t:Term):C E.P 94 [.cf [R3 parts c steps] 0 0,av (cT t)] [] (aO (iv (aF parts t)) []):=by
 refine gS (nt:=11) (rs:=[.tmp 4]) hm Tryz.func94 fun hl he hLB=>?_
 refine aC [] (bz parts t) ?_
 refine iK ?_
 refine ab ?_
 exact sC
theorem zn(parts:List Term)(c:List Nat)(steps:List Step)(x y:Term)(hx:x∈parts)(hy:y∈parts)(hc:c.length=parts.length):C E.P 249 [av (cT x),av (cT y),.ptr 0 0] [some (.box [.ptr 1 0]),some (.box [lv (aj parts),.acc 2,.acc 3]),some (.acc 3 (aP c)),some (.acc 273 (ax steps))] (aO (bv (DN parts c x y)) [some (.box [.ptr 1 0]),some (.box [lv (aj parts),.acc 2,.acc 3]),some (.acc 3 (aP c)),some (.acc 273 (ax steps))]):=by
 have px:=aU hx
 have py:=aU hy
 have cx:=bo hx
 have cy:=bo hy
 have px':al parts x<c.length:=by omega
 have py':al parts y<c.length:=by omega
 have ex:c[al parts x]=cl c (al parts x):=(fh px').symm
 have ey:c[al parts y]=cl c (al parts y):=(fh py').symm
 refine gS (nt:=25) (rs:=[.tmp 5]) hm Tryz.func249 fun hl he hLB=>?_
 refine bK [] [1,2,3] (uP parts c steps x) rfl ?_ ?_ ?_
 ·exact sV
 all_goals simp -implicitDefEqProofs only[go_sem,cx,px',ex]
 refine bK [] [1,2,3] (uP parts c steps y) rfl ?_ ?_ ?_
 ·exact sV
 all_goals simp -implicitDefEqProofs only[go_sem,cy,py',ey]
 refine iK ?_
 refine aG [some 0,some 1,some 2,some 3] ?_ rfl rfl
 refine sA ?_
 ((repeat' apply And.intro)<;>rfl)
theorem wN(parts:List Term)(c:List Nat)(steps:List Step)(hc:c.length=parts.length)(xs ys:List Term)(hx:∀x∈xs,x∈parts)(hy:∀y∈ys,y∈parts)(hl9:xs.length≤1000):C E.P 47 [lv (aj xs),lv (aj ys),.fn 249 [.ptr 0 0]] [some (.box [.ptr 1 0]),some (.box [lv (aj parts),.acc 2,.acc 3]),some (.acc 3 (aP c)),some (.acc 273 (ax steps))] (aO (bv (gm parts c xs ys)) [some (.box [.ptr 1 0]),some (.box [lv (aj parts),.acc 2,.acc 3]),some (.acc 3 (aP c)),some (.acc 273 (ax steps))]):=by
 refine gS (nt:=32) (rs:=[.tmp 6]) hm Tryz.func47 fun hl he hLB=>?_
 rcases Classical.em (xs.length=ys.length) with h0|h0
 ·have k0:=eq_true h0
  simp -implicitDefEqProofs only[go_sem,k0]
  refine au hm (fun(i:Nat)=> i≤xs.length∧gm parts c xs ys=gm parts c (xs.drop i) (ys.drop i)) (fun(i:Nat)=> ⟨b9 32 .any [(1,lv (aj ys)),(2,.fn 249 [.ptr 0 0]),(15,lv (aj xs)),(16,iv xs.length),(17,iv i)],[some (.box [.ptr 1 0]),some (.box [lv (aj parts),.acc 2,.acc 3]),some (.acc 3 (aP c)),some (.acc 273 (ax steps))]⟩) (fun(i:Nat)=> xs.length-i) (0) ?_ (ah [some 0,some 1,some 2,some 3] ?_ ?_ rfl rfl) ?_
  rotate_left
  ·exact sC
  ·exact sC
  rotate_left
  ·exact⟨Nat.zero_le _,rfl⟩
  ·rintro i ⟨hi,hg⟩
   rcases Classical.em (i<xs.length) with h1|h1
   ·have h2:i<ys.length:=by omega
    have hco:=zn parts c steps xs[i] ys[i] (hx _ (List.getElem_mem h1)) (hy _ (List.getElem_mem h2)) hc
    rw[Fl h1 h2] at hg
    simp -implicitDefEqProofs only[go_sem,h1,h2]
    refine cz [.ptr 0 0] [0,1,2,3] hco ?_ ?_
    ·refine sA ?_
     first|rfl|((repeat' apply And.intro)<;>rfl)
    refine sA ?_
    cases h3:DN parts c xs[i] ys[i]
    ·rw[h3,Bool.false_and] at hg
     refine sA ?_
     refine aG [some 0,some 1,some 2,some 3] ?_ rfl rfl
     refine sA ?_
     rw[hg]
    ·rw[h3,Bool.true_and] at hg
     refine sA ?_
     repeat(with_reducible apply And.intro;exact sO)
     refine⟨i+1,?_,?_,ah [some 0,some 1,some 2,some 3] ?_ ?_ rfl rfl⟩
     rotate_left
     ·show _ < _
      omega
     ·exact sC
     ·exact sC
     exact⟨by omega,hg⟩
   ·rw[List.drop_of_length_le (by omega),List.drop_of_length_le (by omega),FY] at hg
    simp -implicitDefEqProofs only[go_sem,h1]
    refine aG [some 0,some 1,some 2,some 3] ?_ rfl rfl
    refine sA ?_
    rw[hg]
 ·rw[xO h0]
  simp -implicitDefEqProofs only[go_sem,h0]
  refine aG [some 0,some 1,some 2,some 3] ?_ rfl rfl
  exact sC
theorem AD(parts:List Term)(c:List Nat)(steps:List Step)(a b:Nat)(hk:fL parts)(ha:a<parts.length)(hb:b<parts.length)(hc:c.length=parts.length)(hk9:∀t∈parts,t.kids.length≤1000):C E.P 214 [.ptr 0 0,iv a,iv b] [some (.box [lv (aj parts),.acc 1,.acc 2]),some (.acc 3 (aP c)),some (.acc 273 (ax steps))] (aO (bv (alike parts c a b)) [some (.box [lv (aj parts),.acc 1,.acc 2]),some (.acc 3 (aP c)),some (.acc 273 (ax steps))]):=by
 have e1:parts.getD a ao=parts[a]:=by rw[List.getD_eq_getElem?_getD,List.getElem?_eq_getElem ha];rfl
 have e2:parts.getD b ao=parts[b]:=by rw[List.getD_eq_getElem?_getD,List.getElem?_eq_getElem hb];rfl
 have ka:=hk _ (List.getElem_mem ha)
 have la:=hk9 _ (List.getElem_mem ha)
 have kb:=hk _ (List.getElem_mem hb)
 have e:alike parts c a b=(decide (0<parts[a].kids.length)&&(decide (parts[a].name=parts[b].name)&&gm parts c parts[a].kids parts[b].kids)):=by rw[alike,e1,e2]
 have hco:=wN parts c steps hc parts[a].kids parts[b].kids ka kb la
 refine gS (nt:=42) (rs:=[.tmp 6]) hm Tryz.func214 fun hl he hLB=>?_
 simp -implicitDefEqProofs only[go_sem,ha,hb]
 refine iK ?_
 rcases Classical.em ((0:Int)<(parts[a].kids.length:Int)) with h1|h1
 ·rcases Classical.em (parts[a].name=parts[b].name) with h2|h2
  ·have k2:=eq_true h2
   rw[decide_eq_true (by omega:0<parts[a].kids.length),decide_eq_true h2,Bool.true_and,Bool.true_and] at e
   simp -implicitDefEqProofs only[go_sem,h1,k2]
   refine cz [] [3,0,1,2] hco ?_ ?_
   ·refine sA ?_
    first|rfl|((repeat' apply And.intro)<;>rfl)
   refine sA ?_
   refine aG [some 0,some 1,some 2] ?_ rfl rfl
   refine sA ?_
   rw[e]
  ·rw[decide_eq_false h2,Bool.false_and,Bool.and_false] at e
   simp -implicitDefEqProofs only[go_sem,h1,h2]
   refine aG [some 0,some 1,some 2] ?_ rfl rfl
   refine sA ?_
   rw[e]
 ·rw[decide_eq_false (by omega:¬0<parts[a].kids.length),Bool.false_and] at e
  simp -implicitDefEqProofs only[go_sem,h1]
  refine aG [some 0,some 1,some 2] ?_ rfl rfl
  refine sA ?_
  rw[e]
end Go.Proofs.YtpidddienjoleaaGreat
namespace Go.Proofs.YtpidddienjoleaaGreat
open Go.Eng Go.Mod
open Int renaming reduceEq→Z1,reduceLT→Z2,reduceLE→Z3,reduceToNat→Z4
set_option maxRecDepth 100000
set_option maxHeartbeats 3200000
theorem L0(parts:List Term)(c:List Nat)(steps:List Step)(hk:fL parts)(hc:c.length=parts.length)(hl9:parts.length≤1000)(hk9:∀t∈parts,t.kids.length≤1000):C E.P 158 [.ptr 0 0] [some (.box [lv (aj parts),.acc 1,.acc 2]),some (.acc 3 (aP c)),some (.acc 273 (ax steps))] (aO (.eZ [iv (((dM parts c).getD (0,0)).1:Nat),iv (((dM parts c).getD (0,0)).2:Nat),bv (dM parts c).isSome]) [some (.box [lv (aj parts),.acc 1,.acc 2]),some (.acc 3 (aP c)),some (.acc 273 (ax steps))]):=by
 refine gS (nt:=44) (rs:=[.tmp 2,.tmp 3,.tmp 4]) hm Tryz.func158 fun hl he hLB=>?_
 refine au hm (fun(l:Nat)=> l≤parts.length∧dM parts c=(dK l parts.length).find? (fun p=>kq parts c p.1 p.2)) (fun(l:Nat)=> ⟨b9 44 .any [(0,.ptr 0 0),(11,iv parts.length),(12,iv l)],[some (.box [lv (aj parts),.acc 1,.acc 2]),some (.acc 3 (aP c)),some (.acc 273 (ax steps))]⟩) (fun(l:Nat)=> parts.length-l) (0) ?_ (ah [some 0,some 1,some 2] ?_ ?_ rfl rfl) ?_
 rotate_left
 ·exact sC
 ·exact sC
 rotate_left
 ·exact⟨Nat.zero_le _,rfl⟩
 ·rintro l ⟨hi,hg⟩
  rcases Classical.em (l<parts.length) with h1|h1
  ·rw[yg h1] at hg
   simp -implicitDefEqProofs only[go_sem,h1]
   refine au hm (fun(e:Nat)=> e≤l∧dM parts c=(ll e l parts.length).find? (fun p=>kq parts c p.1 p.2)) (fun(e:Nat)=> ⟨b9 44 .any [(0,.ptr 0 0),(5,iv l),(11,iv parts.length),(12,iv l),(15,iv l),(16,iv e)],[some (.box [lv (aj parts),.acc 1,.acc 2]),some (.acc 3 (aP c)),some (.acc 273 (ax steps))]⟩) (fun(e:Nat)=> l-e) (0) ?_ (ah [some 0,some 1,some 2] ?_ ?_ rfl rfl) ?_
   rotate_left
   ·exact sC
   ·exact sC
   rotate_left
   ·exact⟨Nat.zero_le _,hg⟩
   ·rintro e ⟨he,hg⟩
    rcases Classical.em (e<l) with h2|h2
    ·have pe:e<c.length:=by omega
     have pl:l<c.length:=by omega
     have ee:c[e]=cl c e:=(fh pe).symm
     have el:c[l]=cl c l:=(fh pl).symm
     rw[Am h2,List.find?_cons] at hg
     have em:kq parts c e l=(decide (cl c e≠cl c l)&&alike parts c e l):=rfl
     simp only[em] at hg
     rcases Classical.em (cl c e=cl c l) with h3|h3
     ·have k3:(cl c e=cl c l)=True:=eq_true h3
      rw[decide_eq_false (by omega:¬cl c e≠cl c l),Bool.false_and] at hg
      simp -implicitDefEqProofs only[go_sem,h2,pe,pl,ee,el,k3]
      refine iK ?_
      repeat(with_reducible apply And.intro;exact sO)
      refine⟨e+1,?_,?_,ah [some 0,some 1,some 2] ?_ ?_ rfl rfl⟩
      rotate_left
      ·show _ < _
       omega
      ·exact sC
      ·exact sC
      exact⟨by omega,hg⟩
     ·have hco:=AD parts c steps e l hk (by omega) h1 hc hk9
      rw[decide_eq_true (by omega:cl c e≠cl c l),Bool.true_and] at hg
      simp -implicitDefEqProofs only[go_sem,h2,pe,pl,ee,el,h3]
      refine cz [] [0,1,2] hco ?_ ?_
      ·refine sA ?_
       first|rfl|((repeat' apply And.intro)<;>rfl)
      refine sA ?_
      refine iK ?_
      cases h4:alike parts c e l
      ·rw[h4] at hg
       refine sA ?_
       repeat(with_reducible apply And.intro;exact sO)
       refine⟨e+1,?_,?_,ah [some 0,some 1,some 2] ?_ ?_ rfl rfl⟩
       rotate_left
       ·show _ < _
        omega
       ·exact sC
       ·exact sC
       exact⟨by omega,hg⟩
      ·rw[h4] at hg
       simp only at hg
       refine sA ?_
       refine aG [some 0,some 1,some 2] ?_ rfl rfl
       refine sA ?_
       rw[hg]
       ((repeat' apply And.intro)<;>rfl)
    ·rw[CI (by omega)] at hg
     simp -implicitDefEqProofs only[go_sem,h2]
     repeat(with_reducible apply And.intro;exact sO)
     refine⟨l+1,?_,?_,ah [some 0,some 1,some 2] ?_ ?_ rfl rfl⟩
     rotate_left
     ·show _ < _
      omega
     ·exact sC
     ·exact sC
     exact⟨by omega,hg⟩
  ·rw[z8 (by omega),List.find?_nil] at hg
   simp -implicitDefEqProofs only[go_sem,h1]
   refine aG [some 0,some 1,some 2] ?_ rfl rfl
   refine sA ?_
   rw[hg]
   ((repeat' apply And.intro)<;>rfl)
theorem AS(parts:List Term)(c:List Nat)(steps:List Step)(a b:Nat)(n:Int)(ha:a<c.length)(hb:b<c.length)(hl9:c.length≤1000)(hs9:steps.length≤2000000):C E.P 157 [.ptr 0 0,iv a,iv b,iv n] [some (.box [lv (aj parts),.acc 1,.acc 2]),some (.acc 3 (aP c)),some (.acc 273 (ax steps))] (aO (.eZ []) [some (.box [lv (aj parts),.acc 1,.acc 3]),some (.acc 3 (aP (dG c a b))),some .dead,some (.acc 273 (ax (steps++[⟨a,b,n⟩])))]):=by
 have ea:c[a]=cl c a:=(fh ha).symm
 have eb:c[b]=cl c b:=(fh hb).symm
 obtain⟨f,hf⟩:∃f,max (cl c a) (cl c b)=f:=⟨_,rfl⟩
 obtain⟨t,ht⟩:∃t,min (cl c a) (cl c b)=t:=⟨_,rfl⟩
 have hend:∀i,c.length≤i→cG c f t i=dG c a b:=fun i hi=>by rw[←hf,←ht];exact HD hi
 have hss:ax steps++[[.val (.int .i64 (a:Int)),.val (.int .i64 (b:Int)),.val (.int .i64 n)]]=ax (steps++[⟨a,b,n⟩]):=by
  rw[←C3,AE,tl];rfl
 refine gS (nt:=65) (rs:=[]) hm Tryz.func157 fun hl he hLB=>?_
 repeat(with_reducible apply And.intro;exact sO)
 simp -implicitDefEqProofs only[go_sem,ha,hb,ea,eb]
 refine iK ?_
 rw[hss]
 rcases Classical.em (cl c a<cl c b) with h0|h0
 ·have ef:f=cl c b:=by omega
  have et:t=cl c a:=by omega
  simp -implicitDefEqProofs only[go_sem,h0]
  rw[←ef,←et]
  refine au hm (fun(i:Nat)=> i≤c.length) (fun(i:Nat)=> ⟨b9 65 .any [(0,.ptr 0 0),(8,iv f),(9,iv t),(47,.acc 1),(48,iv c.length),(49,iv i)],[some (.box [lv (aj parts),.acc 1,.acc 3]),some (.acc 3 (aP (cG c f t i))),some .dead,some (.acc 273 (ax (steps++[⟨a,b,n⟩])))]⟩) (fun(i:Nat)=> c.length-i) (0) ?_ (ah [some 0,some 1,some 2,some 3] ?_ ?_ rfl rfl) ?_
  rotate_left
  ·exact sC
  ·refine sA ?_
   all_goals((simp[cG]))
  rotate_left
  ·omega
  ·rintro i hi
   have hjl:=n5 c f t i
   rcases Classical.em (i<c.length) with h1|h1
   ·have h1':i<(cG c f t i).length:=by omega
    have eg:=od (f:=f) (t:=t) h1 h1'
    rcases Classical.em (c[i]=f) with h2|h2
    ·have k2:(c[i]=f)=True:=eq_true h2
     have hp:=qd (l:=cG c f t i) (i:=i) (n:=t) h1'
     have hn:=lA (f:=f) (t:=t) h1
     rw[if_pos h2] at hn
     rw[kn h1',eg] at hp
     simp -implicitDefEqProofs only[go_sem,hjl,h1,eg,k2]
     repeat(with_reducible apply And.intro;exact sO)
     refine⟨i+1,?_,?_,ah [some 0,some 1,some 2,some 3] ?_ ?_ rfl rfl⟩
     rotate_left
     ·show _ < _
      omega
     ·exact sC
     ·refine sA ?_
      all_goals((rw[hp,hn]))
     exact h1
    ·have hn:=pw (f:=f) (t:=t) h1 h2
     simp -implicitDefEqProofs only[go_sem,hjl,h1,eg,h2]
     repeat(with_reducible apply And.intro;exact sO)
     refine⟨i+1,?_,?_,ah [some 0,some 1,some 2,some 3] ?_ ?_ rfl rfl⟩
     rotate_left
     ·show _ < _
      omega
     ·exact sC
     ·refine sA ?_
      all_goals((rw[hn]))
     exact h1
   ·rw[hend i (by omega)] at hjl⊢
    simp -implicitDefEqProofs only[go_sem,h1]
    refine aG [some 0,some 1,some 2,some 3] ?_ rfl rfl
    exact sC
 ·have ef:f=cl c a:=by omega
  have et:t=cl c b:=by omega
  simp -implicitDefEqProofs only[go_sem,h0]
  rw[←ef,←et]
  refine au hm (fun(i:Nat)=> i≤c.length) (fun(i:Nat)=> ⟨b9 65 .any [(0,.ptr 0 0),(8,iv f),(9,iv t),(47,.acc 1),(48,iv c.length),(49,iv i)],[some (.box [lv (aj parts),.acc 1,.acc 3]),some (.acc 3 (aP (cG c f t i))),some .dead,some (.acc 273 (ax (steps++[⟨a,b,n⟩])))]⟩) (fun(i:Nat)=> c.length-i) (0) ?_ (ah [some 0,some 1,some 2,some 3] ?_ ?_ rfl rfl) ?_
  rotate_left
  ·exact sC
  ·refine sA ?_
   all_goals((simp[cG]))
  rotate_left
  ·omega
  ·rintro i hi
   have hjl:=n5 c f t i
   rcases Classical.em (i<c.length) with h1|h1
   ·have h1':i<(cG c f t i).length:=by omega
    have eg:=od (f:=f) (t:=t) h1 h1'
    rcases Classical.em (c[i]=f) with h2|h2
    ·have k2:(c[i]=f)=True:=eq_true h2
     have hp:=qd (l:=cG c f t i) (i:=i) (n:=t) h1'
     have hn:=lA (f:=f) (t:=t) h1
     rw[if_pos h2] at hn
     rw[kn h1',eg] at hp
     simp -implicitDefEqProofs only[go_sem,hjl,h1,eg,k2]
     repeat(with_reducible apply And.intro;exact sO)
     refine⟨i+1,?_,?_,ah [some 0,some 1,some 2,some 3] ?_ ?_ rfl rfl⟩
     rotate_left
     ·show _ < _
      omega
     ·exact sC
     ·refine sA ?_
      all_goals((rw[hp,hn]))
     exact h1
    ·have hn:=pw (f:=f) (t:=t) h1 h2
     simp -implicitDefEqProofs only[go_sem,hjl,h1,eg,h2]
     repeat(with_reducible apply And.intro;exact sO)
     refine⟨i+1,?_,?_,ah [some 0,some 1,some 2,some 3] ?_ ?_ rfl rfl⟩
     rotate_left
     ·show _ < _
      omega
     ·exact sC
     ·refine sA ?_
      all_goals((rw[hn]))
     exact h1
   ·rw[hend i (by omega)] at hjl⊢
    simp -implicitDefEqProofs only[go_sem,h1]
    refine aG [some 0,some 1,some 2,some 3] ?_ rfl rfl
    exact sC
theorem AB(parts:List Term)(eqs:List gk)(hk:fL parts)(hin:∀e∈eqs,e.A∈parts∧e.B∈parts)(hl9:parts.length≤1000)(hk9:∀t∈parts,t.kids.length≤1000)(he9:eqs.length≤1000) :
 C E.P 89 [lv (aj parts),lv (dz eqs)] [] (aO (.ptr 0 0) [some (.box [lv (aj parts),lv (aP (closed parts eqs).1),lv (ax (closed parts eqs).2)])]):=by
 refine gS (nt:=82) (rs:=[.tmp 4]) hm Tryz.func89 fun hl he hLB=>?_
 refine au hm (fun(i:Nat)=> i≤parts.length) (fun(i:Nat)=> ⟨b9 82 .any [(1,lv (dz eqs)),(5,.ptr 0 0),(18,iv parts.length),(19,iv i)],[some (.box [lv (aj parts),.acc 1,.acc 2]),some (.acc 3 (aP (List.range i))),some (.acc 273 (ax []))]⟩) (fun(i:Nat)=> parts.length-i) (0) ?_ (ah [some 0,none,none] ?_ ?_ rfl rfl) ?_
 rotate_left
 ·exact sC
 ·refine sA ?_
  all_goals(rfl)
 rotate_left
 ·omega
 ·rintro i hi
  have hrl:(List.range i).length=i:=List.length_range
  rcases Classical.em (i<parts.length) with h1|h1
  ·simp -implicitDefEqProofs only[go_sem,h1]
   repeat(with_reducible apply And.intro;exact sO)
   refine⟨i+1,?_,?_,ah [some 0,some 3,some 2] ?_ ?_ rfl rfl⟩
   rotate_left
   ·show _ < _
    omega
   ·exact sC
   ·refine sA ?_
    all_goals((rw[←mZ];rfl))
   exact h1
  ·obtain rfl:i=parts.length:=by omega
   simp -implicitDefEqProofs only[go_sem,h1]
   clear hi h1
   refine ie hm (fun(n:Nat) (c:List Nat) (steps:List Step)=> n≤eqs.length∧c.length=parts.length∧(∀x∈c,x≤1000)∧steps.length≤n∧given parts eqs=dQ parts n (eqs.drop n) c steps) (fun(n:Nat) (c:List Nat) (steps:List Step)=> ⟨b9 82 .any [(5,.ptr 0 0),(33,lv (dz eqs)),(34,iv eqs.length),(35,iv n)],[some (.box [lv (aj parts),.acc 1,.acc 2]),some (.acc 3 (aP c)),some (.acc 273 (ax steps))]⟩) (fun(n:Nat) (c:List Nat) (steps:List Step)=> eqs.length-n) (0) (List.range parts.length) ([]) ?_ (ah [some 0,some 1,some 2] ?_ ?_ rfl rfl) ?_
   rotate_left
   ·exact sC
   ·exact sC
   rotate_left
   ·exact⟨Nat.zero_le _,hrl,fun x hx=>by have:=List.mem_range.1 hx;omega,Nat.le_refl _,rfl⟩
   ·rintro n c steps ⟨hn,hc,hm9,hs,hg⟩
    rcases Classical.em (n<eqs.length) with h1|h1
    ·obtain⟨mA,mB⟩:=hin _ (List.getElem_mem h1)
     have pA:=aU mA
     have pB:=aU mB
     have cA:=bo mA
     have cB:=bo mB
     have pA':al parts eqs[n].A<c.length:=by omega
     have pB':al parts eqs[n].B<c.length:=by omega
     have eA:c[al parts eqs[n].A]=cl c (al parts eqs[n].A):=(fh pA').symm
     have eB:c[al parts eqs[n].B]=cl c (al parts eqs[n].B):=(fh pB').symm
     have hj1:=dy c (al parts eqs[n].A) (al parts eqs[n].B)
     have hj2:=EO (a:=al parts eqs[n].A) (b:=al parts eqs[n].B) hm9
     have cj:=AS parts c steps (al parts eqs[n].A) (al parts eqs[n].B) n pA' pB' (by omega) (by omega)
     have ca:=uP parts c steps eqs[n].A
     have cb:=uP parts c steps eqs[n].B
     rw[cA] at ca
     rw[cB] at cb
     rw[List.drop_eq_getElem_cons h1,dQ] at hg
     simp -implicitDefEqProofs only[go_sem,h1]
     refine bK [] [0,1,2] ca rfl ?_ ?_ ?_
     ·exact sV
     all_goals simp -implicitDefEqProofs only[go_sem]
     refine bK [] [0,1,2] cb rfl ?_ ?_ ?_
     ·exact sV
     all_goals simp -implicitDefEqProofs only[go_sem]
     refine iK ?_
     generalize al parts eqs[n].A=a at *
     generalize al parts eqs[n].B=b at *
     rcases Classical.em (cl c a=cl c b) with h2|h2
     ·have k2:(cl c a=cl c b)=True:=eq_true h2
      rw[if_pos h2] at hg
      simp -implicitDefEqProofs only[go_sem,pA',pB',eA,eB,k2]
      refine iK ?_
      repeat(with_reducible apply And.intro;exact sO)
      refine⟨n+1,c,steps,?_,?_,ah [some 0,some 1,some 2] ?_ ?_ rfl rfl⟩
      rotate_left
      ·show _ < _
       omega
      ·exact sC
      ·exact sC
      exact⟨by omega,hc,hm9,by omega,hg⟩
     ·rw[if_neg h2] at hg
      simp -implicitDefEqProofs only[go_sem,pA',pB',eA,eB,h2]
      refine iK ?_
      refine cz [] [0,1,2,4] cj ?_ ?_
      ·refine sA ?_
       first|rfl|((repeat' apply And.intro)<;>rfl)
      refine sA ?_
      repeat(with_reducible apply And.intro;exact sO)
      refine⟨n+1,dG c a b,steps++[⟨a,b,n⟩],?_,?_,ah [some 0,some 1,some 4] ?_ ?_ rfl rfl⟩
      rotate_left
      ·show _ < _
       omega
      ·exact sC
      ·exact sC
      exact⟨by omega,by omega,hj2,by simp;omega,hg⟩
    ·rw[List.drop_of_length_le (by omega),dQ] at hg
     have hcl:closed parts eqs=fc parts c.sum c steps:=by rw[closed,hg]
     have hsum:=mP hm9
     have hsum2:c.length*1000≤1000*1000:=Nat.mul_le_mul_right _ (by omega)
     simp -implicitDefEqProofs only[go_sem,h1]
     refine ie hm (fun(f:Nat) (c:List Nat) (steps:List Step)=> c.length=parts.length∧(∀x∈c,x≤1000)∧c.sum≤f∧steps.length+f≤1999000∧closed parts eqs=fc parts f c steps) (fun(f:Nat) (c:List Nat) (steps:List Step)=> ⟨b9 82 .any [(5,.ptr 0 0)],[some (.box [lv (aj parts),.acc 1,.acc 2]),some (.acc 3 (aP c)),some (.acc 273 (ax steps))]⟩) (fun(f:Nat) (c:List Nat) (steps:List Step)=> f) (c.sum) (c) (steps) ?_ (ah [some 0,some 1,some 2] ?_ ?_ rfl rfl) ?_
     rotate_left
     ·exact sC
     ·exact sC
     rotate_left
     ·exact⟨hc,hm9,Nat.le_refl _,by omega,hcl⟩
     ·clear hcl hsum hsum2 hg h1 hn hc hm9 hs
      rintro f c steps ⟨hc,hm9,hf,hs,hg⟩
      have cn:=L0 parts c steps hk hc hl9 hk9
      refine sA ?_
      refine cz [] [0,1,2] cn ?_ ?_
      ·refine sA ?_
       first|rfl|((repeat' apply And.intro)<;>rfl)
      refine sA ?_
      cases hp:dM parts c with
      | none=>
        rw[tC hp] at hg
        simp -implicitDefEqProofs only[go_sem,Option.isSome_none,Option.getD_none]
        refine aG [some 0] ?_ rfl rfl
        refine sA ?_
        rw[hg]
        ((repeat' apply And.intro)<;>rfl)
      | some p=>
        obtain⟨f',rfl,hg2,hf2⟩:=tE (steps:=steps) hf hc hp
        obtain⟨p1,p2,p3,p4⟩:=mu hp
        rw[hg2] at hg
        have hj1:=dy c p.1 p.2
        have hj2:=EO (a:=p.1) (b:=p.2) hm9
        have cj:=AS parts c steps p.1 p.2 (-1) (by omega) (by omega) (by omega) (by omega)
        obtain⟨a,b⟩:=p
        simp only at hg hg2 hf2 p1 p2 hj1 hj2 cj
        simp -implicitDefEqProofs only[go_sem,Option.isSome_some,Option.getD_some]
        refine cz [] [0,1,2,3] cj ?_ ?_
        ·refine sA ?_
         first|rfl|((repeat' apply And.intro)<;>rfl)
        refine sA ?_
        refine⟨f',dG c a b,steps++[⟨a,b,-1⟩],?_,?_,ah [some 0,some 1,some 3] ?_ ?_ rfl rfl⟩
        rotate_left
        ·show _ < _
         omega
        ·exact sC
        ·exact sC
        exact⟨by omega,hj2,hf2,by simp;omega,hg⟩
end Go.Proofs.YtpidddienjoleaaGreat
namespace Go.Proofs.YtpidddienjoleaaGreat
open Go.Eng Go.Mod
open Int renaming reduceEq→Z1,reduceLT→Z2,reduceLE→Z3,reduceToNat→Z4
set_option maxRecDepth 100000
set_option maxHeartbeats 3200000
theorem sZ{l:List Mod.Edge}{i:Nat}{x:Mod.Edge}(h:i<l.length):(bc l).set i (mg (row (bc l) i) 0 [.val (.int .i64 (x.step:Int)),.val (.bool x.back)])=bc (l.set i x):=by
 rw[nT h,←DF]
 rfl
theorem A8{ys:List Mod.Edge}{i j:Nat}(hi:i<ys.length)(hj:j<ys.length):((bc ys).set i (mg [.val (.int .i64 (ys[i].step:Int)),.val (.bool ys[i].back)] 0 [.val (.int .i64 (ys[j].step:Int)),.val (.bool ys[j].back)])).set j (mg (row ((bc ys).set i (mg [.val (.int .i64 (ys[i].step:Int)),.val (.bool ys[i].back)] 0 [.val (.int .i64 (ys[j].step:Int)),.val (.bool ys[j].back)])) j) 0 [.val (.int .i64 (ys[i].step:Int)),.val (.bool ys[i].back)])=bc ((ys.set i ys[j]).set j ys[i]):=by
 have h1:(bc ys).set i (mg [.val (.int .i64 (ys[i].step:Int)),.val (.bool ys[i].back)] 0 [.val (.int .i64 (ys[j].step:Int)),.val (.bool ys[j].back)])=bc (ys.set i ys[j]):=by
  have h:=sZ (x:=ys[j]) hi
  rw[nT hi] at h
  exact h
 rw[h1]
 exact sZ (l:=ys.set i ys[j]) (x:=ys[i]) (by simpa using hj)
theorem zQ(l:List Mod.Edge)(hl9:l.length≤1000):C E.P 253 [.acc 0] [some (.acc 283 (bc l))] (aO (.eZ []) [some (.acc 283 (bc l.reverse))]):=by
 refine gS (nt:=28) (rs:=[]) hm Tryz.func253 fun hl he hLB=>?_
 try simp -implicitDefEqProofs only[go_sem,Z1,Z2,Z3,Z4]
 try with_reducible refine iK ?_
 repeat(with_reducible apply And.intro;exact sO)
 refine bQ hm (fun(i:Nat) (ys:List Mod.Edge)=> i≤l.length∧Dh l ys i) (fun(i:Nat) (ys:List Mod.Edge)=> ⟨b9 28 .any [(0,.acc 0),(2,iv i),(3,iv ((l.length:Int)-1-(i:Int)))],[some (.acc 283 (bc ys))]⟩) (fun(i:Nat) (ys:List Mod.Edge)=> l.length-i) (0) (l) ?_ (ah [some 0] ?_ ?_ rfl rfl) ?_
 rotate_left
 ·refine sA ?_
  all_goals(first|done|(simp[*];done)|(simp[aa];done)|(simp;omega)|skip)
 ·refine sA ?_
  all_goals(first|done|(simp[aa, *];done)|(simp[aa];done)|(simp;omega)|skip)
 rotate_left
 ·exact⟨Nat.zero_le _,Dh.zero l⟩
 ·rintro i ys ⟨hi,hr⟩
  have hlen:=hr.len
  rcases Classical.em ((i:Int)<(l.length:Int)-1-(i:Int)) with h1|h1
  ·obtain⟨j,hj⟩:∃j:Nat,(l.length:Int)-1-(i:Int)=j:=⟨l.length-1-i,by omega⟩
   have hi':i<ys.length:=by omega
   have hj':j<ys.length:=by omega
   have hst:=hr.step (by omega:i<j) (by omega) hi' hj'
   rw[hj] at h1⊢
   try simp -implicitDefEqProofs only[go_sem,h1,hi',hj']
   try with_reducible refine iK ?_
   repeat(with_reducible apply And.intro;exact sO)
   refine⟨i+1,(ys.set i ys[j]).set j ys[i],?_,?_,ah [some 0] ?_ ?_ rfl rfl⟩
   rotate_left
   ·show _ < _
    omega
   ·refine sA ?_
    all_goals(first|done|(exact A8 hi' hj')|(simp[*];done)|(simp[];done)|(simp;omega)|skip)
   ·refine sA ?_
    all_goals(first|done|(exact A8 hi' hj')|(simp[aa, *];done)|(simp[aa];done)|(simp;omega)|skip)
   exact⟨by omega,hst⟩
  ·have hd:=hr.done (by omega)
   try simp -implicitDefEqProofs only[go_sem,h1]
   try with_reducible refine iK ?_
   refine aG [some 0] ?_ rfl rfl
   refine sA ?_
   rw[hd]
theorem P7(parts:List Term)(eqs:List gk)(c:List Nat)(steps:List Step)(hok:ke parts eqs steps)(hl9:parts.length≤1000)(hs9:steps.length≤2000000)(n a b:Nat)(hn:n≤steps.length)(ha:a<parts.length)(hb:b<parts.length)(hab:cl (az parts.length steps n) a=cl (az parts.length steps n) b) :
 C E.P 220 [.ptr 0 0,iv a,iv b,iv n] [some (.box [lv (aj parts),lv (aP c),lv (ax steps)])] (aO (lv (bc (iL parts.length steps n a b))) [some (.box [lv (aj parts),lv (aP c),lv (ax steps)])]):=by
 have hLB:=vP
 refine AU (nt:=116) (rs:=[.tmp 8]) Tryz.func220 rfl rfl rfl rfl rfl (fun hl he=>?_)
 simp -implicitDefEqProofs only[go_sem] at hl he⊢
 obtain⟨N,hN⟩:∃N,parts.length=N:=⟨_,rfl⟩
 have hvb:∀k (h:k<steps.length),steps[k].A=(vA steps k:Int)∧steps[k].B=(vB steps k:Int):=fun k h=>by
  have hs:=y9 h
  have hso:=p9 hok h
  have a0:=hso.a0
  have b0:=hso.b0
  rw[hs] at a0 b0
  rw[vA,vB,hs]
  omega
 obtain⟨ss,hss⟩:∃ss,steps.take n=ss:=⟨_,rfl⟩
 have htk:ss.length=n:=by rw[←hss,List.length_take];omega
 have hsl:List.take (n-0) (List.drop 0 (ax steps))=ax ss:=by rw[←hss];simp[ax]
 have hsg:∀k (h:k<ss.length) (h':k<steps.length),ss[k]=steps[k]:=fun k h h'=>by subst hss;exact List.getElem_take
 refine gV (m0 hm ?_)
 try simp -implicitDefEqProofs only[go_sem,ik,gE]
 try with_reducible refine iK ?_
 refine gV (mY ?_)
 refine jX rfl (bU (EA 310 1 rfl) ?_)
 try simp -implicitDefEqProofs only[go_sem]
 try with_reducible refine iK ?_
 refine jX rfl (ib ?_)
 try simp -implicitDefEqProofs only[go_sem]
 try with_reducible refine iK ?_
 refine vf ?_
 simp -implicitDefEqProofs only[go_sem,gE]
 refine gV (mY ?_)
 refine jX rfl (ib ?_)
 try simp -implicitDefEqProofs only[go_sem]
 try with_reducible refine iK ?_
 refine jX rfl (bU (rk 39 3 1 2 _ _ _ [[.val (.int .i64 (a:Int))]] rfl rfl rfl rfl rfl (by simp -implicitDefEqProofs only[go_sem]) rfl (by decide) rfl) ?_)
 try simp -implicitDefEqProofs only[go_sem]
 try with_reducible refine iK ?_
 refine jX rfl (ib ?_)
 try simp -implicitDefEqProofs only[go_sem]
 try with_reducible refine iK ?_
 refine vf ?_
 simp -implicitDefEqProofs only[go_sem,gE]
 refine gV (mY ?_)
 refine jX rfl (bU (EA 311 3 rfl) ?_)
 try simp -implicitDefEqProofs only[go_sem]
 try with_reducible refine iK ?_
 refine jX rfl (ib ?_)
 try simp -implicitDefEqProofs only[go_sem]
 try with_reducible refine iK ?_
 refine jX rfl (bU (lq _ _ _ _ 311 3 4 3 [] (a:Int) (.bool true) (.inr rfl) rfl rfl (by simp -implicitDefEqProofs only[go_sem]) (by simp -implicitDefEqProofs only[go_sem]) (by simp -implicitDefEqProofs only[go_sem]) (by simp -implicitDefEqProofs only[go_sem]) rfl rfl) ?_)
 try simp -implicitDefEqProofs only[go_sem]
 try with_reducible refine iK ?_
 refine jX rfl (ib ?_)
 try simp -implicitDefEqProofs only[go_sem]
 try with_reducible refine iK ?_
 refine jX rfl (ib ?_)
 try simp -implicitDefEqProofs only[go_sem]
 try with_reducible refine iK ?_
 refine vf ?_
 simp -implicitDefEqProofs only[go_sem,gE]
 refine m0 hm ?_
 try simp -implicitDefEqProofs only[go_sem]
 try with_reducible refine iK ?_
 refine bQ hm (fun(i:Nat) (disc:List (Nat×Mod.Edge))=> i≤disc.length∧QS parts.length steps n a disc∧np steps n disc i) (fun(i:Nat) (disc:List (Nat×Mod.Edge))=> ⟨b9 116 .any [(0,.ptr 0 0),(1,iv a),(2,iv b),(3,iv n),(9,.acc 1),(10,.acc 2),(11,.acc 3),(12,iv i)],[some (.box [lv (aj parts),lv (aP c),lv (ax steps)]),some (.map (iD disc)),some (.acc 3 (aP (da disc))),some (.map (rR disc))]⟩) (fun(i:Nat) (disc:List (Nat×Mod.Edge))=> parts.length+1-i) (0) ([(a,⟨0,false⟩)]) ?_ (ah [some 0,some 1,some 2,some 3] ?_ ?_ rfl rfl) ?_
 rotate_left
 ·refine sA ?_
  all_goals(first|done|(((repeat' apply And.intro)<;>rfl))|(simp[aa, *];done)|(simp[aa];done)|(simp;omega)|skip)
 ·refine sA ?_
  all_goals(first|done|(((repeat' apply And.intro)<;>rfl))|(simp[aa, *];done)|(simp[aa];done)|(simp;omega)|skip)
 rotate_left
 ·exact⟨Nat.zero_le _,Jt ha _,fun j v hj=>by omega⟩
 ·rintro i disc ⟨hi,hM,hT⟩
  have hdl:=I3 hM
  have hfl:=mG disc
  rcases Classical.em (i<disc.length) with h1|h1
  ·have h1':i<(da disc).length:=by omega
   obtain⟨v,hv⟩:∃v,(da disc)[i]=v:=⟨_,rfl⟩
   have hv':(da disc)[i]?=some v:=by rw[List.getElem?_eq_getElem h1',hv]
   have f1:n≤steps.length∧∀y∈ax steps,y.length=3:=⟨hn,B3 _⟩
   have hln:min (n-0) (List.drop 0 (ax steps)).length=n:=by simp[ax];omega
   try simp -implicitDefEqProofs only[go_sem,hfl,h1]
   try with_reducible refine iK ?_
   repeat(with_reducible apply And.intro;exact sO)
   try simp -implicitDefEqProofs only[go_sem,hsl,hln]
   try with_reducible refine iK ?_
   refine bQ hm (fun(k:Nat) (disc:List (Nat×Mod.Edge))=> k≤n∧i<disc.length∧(da disc)[i]?=some v∧QS parts.length steps n a disc∧np steps n disc i∧se steps k disc v) (fun(k:Nat) (disc:List (Nat×Mod.Edge))=> ⟨b9 116 .any [(0,.ptr 0 0),(1,iv a),(2,iv b),(3,iv n),(9,.acc 1),(10,.acc 2),(11,.acc 3),(12,iv i),(37,lv (ax ss)),(38,iv n),(39,iv k)],[some (.box [lv (aj parts),lv (aP c),lv (ax steps)]),some (.map (iD disc)),some (.acc 3 (aP (da disc))),some (.map (rR disc))]⟩) (fun(k:Nat) (disc:List (Nat×Mod.Edge))=> n-k) (0) (disc) ?_ (ah [some 0,some 1,some 2,some 3] ?_ ?_ rfl rfl) ?_
   rotate_left
   ·refine sA ?_
    all_goals(first|done|(simp[aa, *];done)|(simp[aa];done)|(simp;omega)|skip)
   ·refine sA ?_
    all_goals(first|done|(simp[aa, *];done)|(simp[aa];done)|(simp;omega)|skip)
   rotate_left
   ·exact⟨Nat.zero_le _,h1,hv',hM,hT,FK _ _ _⟩
   ·clear hM hT hdl hfl h1 h1' hv hv' hi
    rintro k disc ⟨hk,h1,hv',hM,hT,hS⟩
    have hdl:=I3 hM
    have hfl:=mG disc
    have h1':i<(da disc).length:=by omega
    have hv:(da disc)[i]=v:=by
     rw[List.getElem?_eq_getElem h1'] at hv'
     simpa using hv'
    rcases Classical.em (k<n) with h2|h2
    ·have h2':k<ss.length:=by omega
     have h3:k<steps.length:=by omega
     obtain⟨eA,eB⟩:=hvb k h3
     have eg:ss[k]=steps[k]:=hsg k h2' h3
     have a1:=DT hok h3
     have b1:=E5 hok h3
     rcases Classical.em (vB steps k=v) with hB|hB
     ·have kB:=eq_true hB
      rcases Classical.em (vA steps k=v) with hA|hA
      ·have kA:=eq_true hA
       have hmet:v∈da disc:=by rw[←hv];exact List.getElem_mem h1'
       rw[hA] at eA
       rw[hB] at eB
       try simp -implicitDefEqProofs only[go_sem,h2,h2',eg,eA,eB,hfl,h1,hv]
       try with_reducible refine iK ?_
       repeat(with_reducible apply And.intro;exact sO)
       refine bU (lO (.tmp 66) (.tmp 67) 311 3 4 3 (rR disc) (v:Int) (.bool true) rfl rfl (by simp -implicitDefEqProofs only[go_sem]) (by simp -implicitDefEqProofs only[go_sem]) (by simp -implicitDefEqProofs only[go_sem]) (r4 hmet)) ?_
       try simp -implicitDefEqProofs only[go_sem]
       try with_reducible refine iK ?_
       repeat(with_reducible apply And.intro;exact sO)
       refine⟨k+1,disc,?_,?_,ah [some 0,some 1,some 2,some 3] ?_ ?_ rfl rfl⟩
       rotate_left
       ·show _ < _
        omega
       ·refine sA ?_
        all_goals(first|done|(simp[aa, *];done)|(simp[aa];done)|(simp;omega)|skip)
       ·refine sA ?_
        all_goals(first|done|(simp[aa, *];done)|(simp[aa];done)|(simp;omega)|skip)
       exact⟨by omega,h1,hv',hM,hT,gU hS (fun _=>by rw[hB];exact hmet) (fun _=>by rw[hA];exact hmet)⟩
      ·have es:fA steps ⟨k,true⟩=v:=hB
       have ee:hQ steps ⟨k,true⟩=vA steps k:=rfl
       obtain⟨w,hw⟩:∃w,vA steps k=w:=⟨_,rfl⟩
       rw[hw] at eA a1 ee hA
       rw[hB] at eB
       rcases Classical.em (w∈da disc) with hmet|hmet
       ·try simp -implicitDefEqProofs only[go_sem,h2,h2',eg,eA,eB,hfl,h1,hv]
        try with_reducible refine iK ?_
        repeat(with_reducible apply And.intro;exact sO)
        refine bU (lO (.tmp 66) (.tmp 67) 311 3 4 3 (rR disc) (w:Int) (.bool true) rfl rfl (by simp -implicitDefEqProofs only[go_sem]) (by simp -implicitDefEqProofs only[go_sem]) (by simp -implicitDefEqProofs only[go_sem]) (r4 hmet)) ?_
        try simp -implicitDefEqProofs only[go_sem]
        try with_reducible refine iK ?_
        repeat(with_reducible apply And.intro;exact sO)
        refine⟨k+1,disc,?_,?_,ah [some 0,some 1,some 2,some 3] ?_ ?_ rfl rfl⟩
        rotate_left
        ·show _ < _
         omega
        ·refine sA ?_
         all_goals(first|done|(simp[aa, *];done)|(simp[aa];done)|(simp;omega)|skip)
        ·refine sA ?_
         all_goals(first|done|(simp[aa, *];done)|(simp[aa];done)|(simp;omega)|skip)
        exact⟨by omega,h1,hv',hM,hT,gU hS (fun h=>absurd (hw▸h) hA) (fun _=>by rw[hw];exact hmet)⟩
       ·try simp -implicitDefEqProofs only[go_sem,h2,h2',eg,eA,eB,hfl,h1,hv]
        try with_reducible refine iK ?_
        repeat(with_reducible apply And.intro;exact sO)
        have hd0:0<disc.length:=by omega
        refine bU (tV (.tmp 66) (.tmp 67) 311 3 4 3 _ (rR disc) (w:Int) rfl rfl rfl rfl (by simp -implicitDefEqProofs only[go_sem]) (by simp -implicitDefEqProofs only[go_sem]) (by simp -implicitDefEqProofs only[go_sem]) (kf hmet)) ?_
        try simp -implicitDefEqProofs only[go_sem]
        try with_reducible refine iK ?_
        repeat(with_reducible apply And.intro;exact sO)
        refine bU (lq _ _ _ _ 311 3 4 3 (rR disc) (w:Int) (.bool true) (.inl rfl) rfl rfl (by simp -implicitDefEqProofs only[go_sem]) (by simp -implicitDefEqProofs only[go_sem]) (by simp -implicitDefEqProofs only[go_sem]) (by simp -implicitDefEqProofs only[go_sem]) rfl (kf hmet)) ?_
        try simp -implicitDefEqProofs only[go_sem]
        try with_reducible refine iK ?_
        repeat(with_reducible apply And.intro;exact sO)
        refine bU (lq _ _ _ _ 310 3 283 1 (iD disc) (w:Int) (.agg #[.int .i64 (k:Int),.bool true]) (.inl rfl) rfl rfl (by simp -implicitDefEqProofs only[go_sem]) (by simp -implicitDefEqProofs only[go_sem]) (by simp -implicitDefEqProofs only[go_sem]) (by simp -implicitDefEqProofs only[go_sem]) rfl (kX hmet)) ?_
        try simp -implicitDefEqProofs only[go_sem]
        try with_reducible refine iK ?_
        repeat(with_reducible apply And.intro;exact sO)
        refine⟨k+1,disc++[(w,⟨k,true⟩)],?_,?_,ah [some 0,some 1,some 5,some 3] ?_ ?_ rfl rfl⟩
        rotate_left
        ·show _ < _
         omega
        ·refine sA ?_
         all_goals(first|done|((rw[lW hd0,tO,dB,←mZ];(repeat' apply And.intro)<;>rfl))|(simp[aa, *];done)|(simp[aa];done)|(simp;omega)|skip)
        ·refine sA ?_
         all_goals(first|done|((rw[lW hd0,tO,dB,←mZ];(repeat' apply And.intro)<;>rfl))|(simp[aa, *];done)|(simp[aa];done)|(simp;omega)|skip)
        have hM2:=Jn (e:=⟨k,true⟩) hM h2 hv' es (by rw[ee];exact hmet) (by rw[ee];exact a1)
        rw[ee] at hM2
        refine⟨by omega,by simp;omega,by rw[dB,List.getElem?_append_left h1'];exact hv',hM2,uc (by omega) hT,gU (vS hS) (fun h=>absurd (hw▸h) hA) (fun _=>?_)⟩
        rw[hw,dB]
        exact List.mem_append_right _ (by simp[da])
     ·rcases Classical.em (vA steps k=v) with hA|hA
      ·have es:fA steps ⟨k,false⟩=v:=hA
       have ee:hQ steps ⟨k,false⟩=vB steps k:=rfl
       obtain⟨w,hw⟩:∃w,vB steps k=w:=⟨_,rfl⟩
       rw[hw] at eB b1 ee hB
       rw[hA] at eA
       rcases Classical.em (w∈da disc) with hmet|hmet
       ·try simp -implicitDefEqProofs only[go_sem,h2,h2',eg,eA,eB,hfl,h1,hv,hB]
        try with_reducible refine iK ?_
        repeat(with_reducible apply And.intro;exact sO)
        refine bU (lO (.tmp 66) (.tmp 67) 311 3 4 3 (rR disc) (w:Int) (.bool true) rfl rfl (by simp -implicitDefEqProofs only[go_sem]) (by simp -implicitDefEqProofs only[go_sem]) (by simp -implicitDefEqProofs only[go_sem]) (r4 hmet)) ?_
        try simp -implicitDefEqProofs only[go_sem]
        try with_reducible refine iK ?_
        repeat(with_reducible apply And.intro;exact sO)
        refine⟨k+1,disc,?_,?_,ah [some 0,some 1,some 2,some 3] ?_ ?_ rfl rfl⟩
        rotate_left
        ·show _ < _
         omega
        ·refine sA ?_
         all_goals(first|done|(simp[aa, *];done)|(simp[aa];done)|(simp;omega)|skip)
        ·refine sA ?_
         all_goals(first|done|(simp[aa, *];done)|(simp[aa];done)|(simp;omega)|skip)
        exact⟨by omega,h1,hv',hM,hT,gU hS (fun _=>by rw[hw];exact hmet) (fun h=>absurd (hw▸h) hB)⟩
       ·try simp -implicitDefEqProofs only[go_sem,h2,h2',eg,eA,eB,hfl,h1,hv,hB]
        try with_reducible refine iK ?_
        repeat(with_reducible apply And.intro;exact sO)
        have hd0:0<disc.length:=by omega
        refine bU (tV (.tmp 66) (.tmp 67) 311 3 4 3 _ (rR disc) (w:Int) rfl rfl rfl rfl (by simp -implicitDefEqProofs only[go_sem]) (by simp -implicitDefEqProofs only[go_sem]) (by simp -implicitDefEqProofs only[go_sem]) (kf hmet)) ?_
        try simp -implicitDefEqProofs only[go_sem]
        try with_reducible refine iK ?_
        repeat(with_reducible apply And.intro;exact sO)
        refine bU (lq _ _ _ _ 311 3 4 3 (rR disc) (w:Int) (.bool true) (.inl rfl) rfl rfl (by simp -implicitDefEqProofs only[go_sem]) (by simp -implicitDefEqProofs only[go_sem]) (by simp -implicitDefEqProofs only[go_sem]) (by simp -implicitDefEqProofs only[go_sem]) rfl (kf hmet)) ?_
        try simp -implicitDefEqProofs only[go_sem]
        try with_reducible refine iK ?_
        repeat(with_reducible apply And.intro;exact sO)
        refine bU (lq _ _ _ _ 310 3 283 1 (iD disc) (w:Int) (.agg #[.int .i64 (k:Int),.bool false]) (.inl rfl) rfl rfl (by simp -implicitDefEqProofs only[go_sem]) (by simp -implicitDefEqProofs only[go_sem]) (by simp -implicitDefEqProofs only[go_sem]) (by simp -implicitDefEqProofs only[go_sem]) rfl (kX hmet)) ?_
        try simp -implicitDefEqProofs only[go_sem]
        try with_reducible refine iK ?_
        repeat(with_reducible apply And.intro;exact sO)
        refine⟨k+1,disc++[(w,⟨k,false⟩)],?_,?_,ah [some 0,some 1,some 5,some 3] ?_ ?_ rfl rfl⟩
        rotate_left
        ·show _ < _
         omega
        ·refine sA ?_
         all_goals(first|done|((rw[lW hd0,tO,dB,←mZ];(repeat' apply And.intro)<;>rfl))|(simp[aa, *];done)|(simp[aa];done)|(simp;omega)|skip)
        ·refine sA ?_
         all_goals(first|done|((rw[lW hd0,tO,dB,←mZ];(repeat' apply And.intro)<;>rfl))|(simp[aa, *];done)|(simp[aa];done)|(simp;omega)|skip)
        have hM2:=Jn (e:=⟨k,false⟩) hM h2 hv' es (by rw[ee];exact hmet) (by rw[ee];exact b1)
        rw[ee] at hM2
        refine⟨by omega,by simp;omega,by rw[dB,List.getElem?_append_left h1'];exact hv',hM2,uc (by omega) hT,gU (vS hS) (fun _=>?_) (fun h=>absurd (hw▸h) hB)⟩
        rw[hw,dB]
        exact List.mem_append_right _ (by simp[da])
      ·try simp -implicitDefEqProofs only[go_sem,h2,h2',eg,eA,eB,hfl,h1,hv,hB,hA]
       try with_reducible refine iK ?_
       repeat(with_reducible apply And.intro;exact sO)
       refine⟨k+1,disc,?_,?_,ah [some 0,some 1,some 2,some 3] ?_ ?_ rfl rfl⟩
       rotate_left
       ·show _ < _
        omega
       ·refine sA ?_
        all_goals(first|done|(simp[aa, *];done)|(simp[aa];done)|(simp;omega)|skip)
       ·refine sA ?_
        all_goals(first|done|(simp[aa, *];done)|(simp[aa];done)|(simp;omega)|skip)
       exact⟨by omega,h1,hv',hM,hT,gU hS (fun h=>absurd h hA) (fun h=>absurd h hB)⟩
    ·obtain rfl:k=n:=by omega
     try simp -implicitDefEqProofs only[go_sem,h2]
     try with_reducible refine iK ?_
     repeat(with_reducible apply And.intro;exact sO)
     refine⟨i+1,disc,?_,?_,ah [some 0,some 1,some 2,some 3] ?_ ?_ rfl rfl⟩
     rotate_left
     ·show _ < _
      omega
     ·refine sA ?_
      all_goals(first|done|(simp[aa, *];done)|(simp[aa];done)|(simp;omega)|skip)
     ·refine sA ?_
      all_goals(first|done|(simp[aa, *];done)|(simp[aa];done)|(simp;omega)|skip)
     exact⟨by omega,hM,Cp hT hv' (GW hS)⟩
  ·obtain rfl:i=disc.length:=by omega
   obtain⟨w1,w2,w3⟩:=rU hok hn ha hb hab
   have hbm:b∈da disc:=tg hT w1 w2 (List.mem_of_getElem? hM.head)
   obtain⟨j0,hj0,hjb⟩:=List.mem_iff_getElem.1 hbm
   have hjb':(da disc)[j0]?=some b:=by rw[List.getElem?_eq_getElem hj0,hjb]
   try simp -implicitDefEqProofs only[go_sem,hfl,h1]
   try with_reducible refine iK ?_
   refine ie hm (fun(j:Nat) (t:Nat) (out:List Mod.Edge)=> Lt steps n b disc j t out) (fun(j:Nat) (t:Nat) (out:List Mod.Edge)=> ⟨b9 116 .any [(0,.ptr 0 0),(1,iv a),(2,iv t),(9,.acc 1),(18,.acc 2)],[some (.box [lv (aj parts),lv (aP c),lv (ax steps)]),some (.map (iD disc)),some (.acc 283 (bc out))]⟩) (fun(j:Nat) (t:Nat) (out:List Mod.Edge)=> j) (j0) (b) ([]) ?_ (ah [some 0,some 1,none] ?_ ?_ rfl rfl) ?_
   rotate_left
   ·refine sA ?_
    all_goals(first|done|(rfl)|(simp[aa, *];done)|(simp[aa];done)|(simp;omega)|skip)
   ·refine sA ?_
    all_goals(first|done|(rfl)|(simp[aa, *];done)|(simp[aa];done)|(simp;omega)|skip)
   rotate_left
   ·exact HC hjb'
   ·rintro j t out hB
    have hjl:j<disc.length:=by
     rw[←hfl]
     exact(List.getElem?_eq_some_iff.1 hB.at_).1
    have htl:t<parts.length:=hM.lt t (List.mem_of_getElem? hB.at_)
    have hol:out.length≤1000:=by
     have h5:=pO hB.NR (fun v hv=>by
      simp only[dv,List.mem_cons,List.mem_map] at hv
      rcases hv with rfl|⟨d,hd,rfl⟩
      ·exact htl
      ·exact xA hok (by have:=hB.SM d hd;omega))
     simp[dv] at h5
     omega
    rcases Classical.em (t=a) with h2|h2
    ·have k2:=eq_true h2
     have hbk:=hB
     rw[h2] at hbk
     have hout:=K5 hok hn ha hbk
     try simp -implicitDefEqProofs only[go_sem,k2]
     try with_reducible refine iK ?_
     refine oC [] [2] (zQ out hol) ?_
     try with_reducible refine iK ?_
     try simp -implicitDefEqProofs only[go_sem,Z1,Z2,Z3,Z4,ik,gE,CK]
     try with_reducible refine iK ?_
     refine bO ?_
     refine aG [some 0] ?_ rfl rfl
     refine sA ?_
     rw[hout]
     exact⟨rfl,rfl⟩
    ·have hj:0<j:=by
      rcases Nat.eq_zero_or_pos j with h5|h5
      ·have h6:=hM.head
       have h7:=hB.at_
       rw[h5,h6] at h7
       exact absurd (Option.some.inj h7).symm h2
      ·exact h5
     obtain⟨⟨t',e⟩,hde⟩:∃x,disc[j]?=some x:=⟨disc[j],List.getElem?_eq_getElem hjl⟩
     have htt:t'=t:=by
      have h7:=hB.at_
      rw[da,List.getElem?_map,hde] at h7
      exact Option.some.inj h7
     rw[htt] at hde
     have hmg:=zT hM.NR hj hde
     obtain⟨i2,hi2,hB2⟩:=Jv hM hB hde hj
     have hes:=(hM.SX j t e hde hj).1
     have h3:e.step<steps.length:=by omega
     obtain⟨eA,eB⟩:=hvb e.step h3
     try simp -implicitDefEqProofs only[go_sem,h2]
     try with_reducible refine iK ?_
     refine bU (lO (.tmp 86) (.tmp 87) 310 3 283 1 (iD disc) (t:Int) (.agg #[.int .i64 (e.step:Int),.bool e.back]) rfl rfl (by simp -implicitDefEqProofs only[go_sem]) (by simp -implicitDefEqProofs only[go_sem]) (by simp -implicitDefEqProofs only[go_sem]) hmg) ?_
     cases hb2:e.back
     ·have es:fA steps e=vA steps e.step:=by rw[fA,hb2];rfl
      rw[es] at hB2
      try simp -implicitDefEqProofs only[go_sem,h3,eA,eB]
      try with_reducible refine iK ?_
      repeat(with_reducible apply And.intro;exact sO)
      try simp -implicitDefEqProofs only[go_sem,Z1,Z2,Z3,Z4,h3,eA,eB]
      try with_reducible refine iK ?_
      repeat(with_reducible apply And.intro;exact sO)
      refine⟨i2,vA steps e.step,out++[e],?_,?_,ah [some 0,some 1,some 4] ?_ ?_ rfl rfl⟩
      rotate_left
      ·show _ < _
       omega
      ·refine sA ?_
       all_goals(first|done|((rw[←j7,jj,ig,qD,hb2]))|(simp[aa, *];done)|(simp[aa];done)|(simp;omega)|skip)
      ·refine sA ?_
       all_goals(first|done|((rw[←j7,jj,ig,qD,hb2]))|(simp[aa, *];done)|(simp[aa];done)|(simp;omega)|skip)
      exact hB2
     ·have es:fA steps e=vB steps e.step:=by rw[fA,hb2];rfl
      rw[es] at hB2
      try simp -implicitDefEqProofs only[go_sem,h3,eA,eB]
      try with_reducible refine iK ?_
      repeat(with_reducible apply And.intro;exact sO)
      try simp -implicitDefEqProofs only[go_sem,Z1,Z2,Z3,Z4,h3,eA,eB]
      try with_reducible refine iK ?_
      repeat(with_reducible apply And.intro;exact sO)
      refine⟨i2,vB steps e.step,out++[e],?_,?_,ah [some 0,some 1,some 4] ?_ ?_ rfl rfl⟩
      rotate_left
      ·show _ < _
       omega
      ·refine sA ?_
       all_goals(first|done|((rw[←j7,jj,ig,qD,hb2]))|(simp[aa, *];done)|(simp[aa];done)|(simp;omega)|skip)
      ·refine sA ?_
       all_goals(first|done|((rw[←j7,jj,ig,qD,hb2]))|(simp[aa, *];done)|(simp[aa];done)|(simp;omega)|skip)
      exact hB2
end Go.Proofs.YtpidddienjoleaaGreat
