/-
  The program: the walk of closures. A step towards the laws.
-/
import Derived.Test.YtabembjmeobhoaaGreatKDH
import Derived.Test.YtabembjmeobhoaaGreatKDEl
set_option linter.unusedVariables false
set_option linter.unusedSimpArgs false
open And renaming intro→au
open Bool renaming true_and→aB,false_and→aK
open Classical renaming em→aa
open List renaming getElem?_eq_getElem→ah,drop_of_length_le→ai,getElem_mem→ak,getD_eq_getElem?_getD→aA,getElem?_append_left→bf,range→bx,mem_of_getElem?→c9,drop→fx,mem_append_right→gf
open Nat renaming le_refl→aJ,zero_le→bc
namespace Go.Proofs.YtabembjmeobhoaaGreat
open Go.Eng Go.Mod
open Int renaming reduceEq→Z1,reduceLT→Z2,reduceLE→Z3,reduceToNat→Z4
set_option maxRecDepth 100000
set_option maxHeartbeats 3200000
def aaS(af:List Term)(c:List Nat)(aj:List Step):List D:=[.dt (aN af),.dt (bQ c),.dt (aY aj)]
attribute [go_sem] aaS
theorem CB(af:List Term)(c:List Nat)(aj:List Step)(t:Term):C E.P 48 [.gq [aaS af c aj] 0 0,av (cT t)] [] (bz (iv (bK af t)) []):=by
 refine gS (nt:=11) (rs:=[.tmp 4]) hm Tryz.func48 fun hl he cq=>?_
 refine aC [] (dE af t) ?_
 refine iK ?_
 refine an ?_
 exact sC
theorem Ga(af:List Term)(c:List Nat)(aj:List Step)(x y:Term)(hx:x∈af)(hy:y∈af)(hc:c.length=af.length):C E.P 229 [av (cT x),av (cT y),.ptr 0 0] [some (.box [.ptr 1 0]),some (.box [lv (aN af),.acc 2,.acc 3]),some (.acc 3 (bQ c)),some (.acc 220 (aY aj))] (bz (bv (Jo af c x y)) [some (.box [.ptr 1 0]),some (.box [lv (aN af),.acc 2,.acc 3]),some (.acc 3 (bQ c)),some (.acc 220 (aY aj))]):=by
 have px:=bA hx
 have py:=bA hy
 have cx:=cd hx
 have cy:=cd hy
 have px':aG af x<c.length:=by omega
 have py':aG af y<c.length:=by omega
 have ex:c[aG af x]=cl c (aG af x):=(gX px').symm
 have ey:c[aG af y]=cl c (aG af y):=(gX py').symm
 refine gS (nt:=25) (rs:=[.tmp 5]) hm Tryz.func229 fun hl he cq=>?_
 refine dH [] [1,2,3] (CB af c aj x) rfl ?_ ?_ ?_
 ·exact sV
 all_goals simp -implicitDefEqProofs only[go_sem,cx,px',ex]
 refine dH [] [1,2,3] (CB af c aj y) rfl ?_ ?_ ?_
 ·exact sV
 all_goals simp -implicitDefEqProofs only[go_sem,cy,py',ey]
 refine iK ?_
 refine bZ [some 0,some 1,some 2,some 3] ?_ rfl rfl
 refine sA ?_
 ((repeat' apply au)<;>rfl)
theorem Ej(af:List Term)(c:List Nat)(aj:List Step)(hc:c.length=af.length)(xs ys:List Term)(hx:∀x∈xs,x∈af)(hy:∀y∈ys,y∈af)(o5:xs.length≤1000):C E.P 82 [lv (aN xs),lv (aN ys),.fn 229 [.ptr 0 0]] [some (.box [.ptr 1 0]),some (.box [lv (aN af),.acc 2,.acc 3]),some (.acc 3 (bQ c)),some (.acc 220 (aY aj))] (bz (bv (ly af c xs ys)) [some (.box [.ptr 1 0]),some (.box [lv (aN af),.acc 2,.acc 3]),some (.acc 3 (bQ c)),some (.acc 220 (aY aj))]):=by
 refine gS (nt:=32) (rs:=[.tmp 6]) hm Tryz.func82 fun hl he cq=>?_
 rcases aa (xs.length=ys.length) with h0|h0
 ·have k0:=eq_true h0
  refine uH ?_
  refine aL hm (fun(i:Nat)=> i≤xs.length∧ly af c xs ys=ly af c (xs.drop i) (ys.drop i)) (fun(i:Nat)=> ⟨dx 32 .any [(1,lv (aN ys)),(2,.fn 229 [.ptr 0 0]),(15,lv (aN xs)),(16,iv xs.length),(17,iv i)],[some (.box [.ptr 1 0]),some (.box [lv (aN af),.acc 2,.acc 3]),some (.acc 3 (bQ c)),some (.acc 220 (aY aj))]⟩) (fun(i:Nat)=> xs.length-i) (0) ?_ (ar [some 0,some 1,some 2,some 3] ?_ ?_ rfl rfl) ?_
  rotate_left
  ·exact sC
  ·exact sC
  rotate_left
  ·exact⟨bc _,rfl⟩
  ·rintro i ⟨hi,hg⟩
   rcases aa (i<xs.length) with h1|h1
   ·have h2:i<ys.length:=by omega
    have hco:=Ga af c aj xs[i] ys[i] (hx _ (ak h1)) (hy _ (ak h2)) hc
    rw[DR h1 h2] at hg
    refine uJ ?_
    refine gw [.ptr 0 0] [0,1,2,3] hco ?_ ?_
    ·refine sA ?_
     first|rfl|((repeat' apply au)<;>rfl)
    refine sA ?_
    cases h3:Jo af c xs[i] ys[i]
    ·rw[h3,aK] at hg
     refine sA ?_
     refine bZ [some 0,some 1,some 2,some 3] ?_ rfl rfl
     refine sA ?_
     rw[hg]
    ·rw[h3,aB] at hg
     refine sA ?_
     refine sQ ?_
     refine⟨i+1,?_,sL,ar [some 0,some 1,some 2,some 3] ?_ ?_ rfl rfl⟩
     rotate_left
     ·exact sC
     ·exact sC
     exact⟨by omega,hg⟩
   ·rw[ai (by omega),ai (by omega),HQ] at hg
    refine uA ?_
    refine bZ [some 0,some 1,some 2,some 3] ?_ rfl rfl
    refine sA ?_
    rw[hg]
 ·rw[zY h0]
  simp -implicitDefEqProofs only[go_sem,h0]
  refine bZ [some 0,some 1,some 2,some 3] ?_ rfl rfl
  exact sC
theorem H7(af:List Term)(c:List Nat)(aj:List Step)(a b:Nat)(hk:gR af)(ha:a<af.length)(hb:b<af.length)(hc:c.length=af.length)(hk9:∀t∈af,t.kids.length≤1000):C E.P 168 [.ptr 0 0,iv a,iv b] [some (.box [lv (aN af),.acc 1,.acc 2]),some (.acc 3 (bQ c)),some (.acc 220 (aY aj))] (bz (bv (alike af c a b)) [some (.box [lv (aN af),.acc 1,.acc 2]),some (.acc 3 (bQ c)),some (.acc 220 (aY aj))]):=by
 have e1:af.getD a aM=af[a]:=by rw[aA,ah ha];rfl
 have e2:af.getD b aM=af[b]:=by rw[aA,ah hb];rfl
 have ka:=hk _ (ak ha)
 have la:=hk9 _ (ak ha)
 have kb:=hk _ (ak hb)
 have e:alike af c a b=(decide (0<af[a].kids.length)&&(decide (af[a].name=af[b].name)&&ly af c af[a].kids af[b].kids)):=by rw[alike,e1,e2]
 have hco:=Ej af c aj hc af[a].kids af[b].kids ka kb la
 refine gS (nt:=42) (rs:=[.tmp 6]) hm Tryz.func168 fun hl he cq=>?_
 simp -implicitDefEqProofs only[go_sem,ha,hb]
 refine iK ?_
 rcases aa ((0:Int)<(af[a].kids.length:Int)) with h1|h1
 ·rcases aa (af[a].name=af[b].name) with h2|h2
  ·have k2:=eq_true h2
   rw[decide_eq_true (by omega:0<af[a].kids.length),decide_eq_true h2,aB,aB] at e
   simp -implicitDefEqProofs only[go_sem,h1,k2]
   refine gw [] [3,0,1,2] hco ?_ ?_
   ·refine sA ?_
    first|rfl|((repeat' apply au)<;>rfl)
   refine sA ?_
   refine bZ [some 0,some 1,some 2] ?_ rfl rfl
   refine sA ?_
   rw[e]
  ·rw[decide_eq_false h2,aK,Bool.and_false] at e
   refine uJ ?_
   refine bZ [some 0,some 1,some 2] ?_ rfl rfl
   refine sA ?_
   rw[e]
 ·rw[decide_eq_false (by omega:¬0<af[a].kids.length),aK] at e
  refine uA ?_
  refine bZ [some 0,some 1,some 2] ?_ rfl rfl
  refine sA ?_
  rw[e]
theorem Uc(af:List Term)(c:List Nat)(aj:List Step)(hk:gR af)(hc:c.length=af.length)(o5:af.length≤1000)(hk9:∀t∈af,t.kids.length≤1000):C E.P 99 [.ptr 0 0] [some (.box [lv (aN af),.acc 1,.acc 2]),some (.acc 3 (bQ c)),some (.acc 220 (aY aj))] (bz (.gV [iv (((fD af c).getD (0,0)).1:Nat),iv (((fD af c).getD (0,0)).2:Nat),bv (fD af c).isSome]) [some (.box [lv (aN af),.acc 1,.acc 2]),some (.acc 3 (bQ c)),some (.acc 220 (aY aj))]):=by
 refine gS (nt:=44) (rs:=[.tmp 2,.tmp 3,.tmp 4]) hm Tryz.func99 fun hl he cq=>?_
 refine aL hm (fun(l:Nat)=> l≤af.length∧fD af c=(jA l af.length).find? (fun p=>mY af c p.1 p.2)) (fun(l:Nat)=> ⟨dx 44 .any [(0,.ptr 0 0),(11,iv af.length),(12,iv l)],[some (.box [lv (aN af),.acc 1,.acc 2]),some (.acc 3 (bQ c)),some (.acc 220 (aY aj))]⟩) (fun(l:Nat)=> af.length-l) (0) ?_ (ar [some 0,some 1,some 2] ?_ ?_ rfl rfl) ?_
 rotate_left
 ·exact sC
 ·exact sC
 rotate_left
 ·exact⟨bc _,rfl⟩
 ·rintro l ⟨hi,hg⟩
  rcases aa (l<af.length) with h1|h1
  ·rw[x8 h1] at hg
   refine uA ?_
   refine aL hm (fun(e:Nat)=> e≤l∧fD af c=(qu e l af.length).find? (fun p=>mY af c p.1 p.2)) (fun(e:Nat)=> ⟨dx 44 .any [(0,.ptr 0 0),(5,iv l),(11,iv af.length),(12,iv l),(15,iv l),(16,iv e)],[some (.box [lv (aN af),.acc 1,.acc 2]),some (.acc 3 (bQ c)),some (.acc 220 (aY aj))]⟩) (fun(e:Nat)=> l-e) (0) ?_ (ar [some 0,some 1,some 2] ?_ ?_ rfl rfl) ?_
   rotate_left
   ·exact sC
   ·exact sC
   rotate_left
   ·exact⟨bc _,hg⟩
   ·rintro e ⟨he,hg⟩
    rcases aa (e<l) with h2|h2
    ·have pe:e<c.length:=by omega
     have pl:l<c.length:=by omega
     have ee:c[e]=cl c e:=(gX pe).symm
     have el:c[l]=cl c l:=(gX pl).symm
     rw[y8 h2,List.find?_cons] at hg
     have em:mY af c e l=(decide (cl c e≠cl c l)&&alike af c e l):=rfl
     simp only[em] at hg
     rcases aa (cl c e=cl c l) with h3|h3
     ·have k3:(cl c e=cl c l)=True:=eq_true h3
      rw[decide_eq_false (by omega:¬cl c e≠cl c l),aK] at hg
      simp -implicitDefEqProofs only[go_sem,h2,pe,pl,ee,el,k3]
      refine iK ?_
      refine sQ ?_
      refine⟨e+1,?_,sL,ar [some 0,some 1,some 2] ?_ ?_ rfl rfl⟩
      rotate_left
      ·exact sC
      ·exact sC
      exact⟨by omega,hg⟩
     ·have hco:=H7 af c aj e l hk (by omega) h1 hc hk9
      rw[decide_eq_true (by omega:cl c e≠cl c l),aB] at hg
      simp -implicitDefEqProofs only[go_sem,h2,pe,pl,ee,el,h3]
      refine gw [] [0,1,2] hco ?_ ?_
      ·refine sA ?_
       first|rfl|((repeat' apply au)<;>rfl)
      refine sA ?_
      refine iK ?_
      cases h4:alike af c e l
      ·rw[h4] at hg
       refine sA ?_
       refine sQ ?_
       refine⟨e+1,?_,sL,ar [some 0,some 1,some 2] ?_ ?_ rfl rfl⟩
       rotate_left
       ·exact sC
       ·exact sC
       exact⟨by omega,hg⟩
      ·rw[h4] at hg
       simp only at hg
       refine sA ?_
       refine bZ [some 0,some 1,some 2] ?_ rfl rfl
       refine sA ?_
       rw[hg]
       ((repeat' apply au)<;>rfl)
    ·rw[BU (by omega)] at hg
     refine uB ?_
     refine sQ ?_
     refine⟨l+1,?_,sL,ar [some 0,some 1,some 2] ?_ ?_ rfl rfl⟩
     rotate_left
     ·exact sC
     ·exact sC
     exact⟨by omega,hg⟩
  ·rw[zq (by omega),List.find?_nil] at hg
   refine uA ?_
   refine bZ [some 0,some 1,some 2] ?_ rfl rfl
   refine sA ?_
   rw[hg]
   ((repeat' apply au)<;>rfl)
theorem Jn(af:List Term)(c:List Nat)(aj:List Step)(a b:Nat)(n:Int)(ha:a<c.length)(hb:b<c.length)(o5:c.length≤1000)(hs9:aj.length≤2000000):C E.P 98 [.ptr 0 0,iv a,iv b,iv n] [some (.box [lv (aN af),.acc 1,.acc 2]),some (.acc 3 (bQ c)),some (.acc 220 (aY aj))] (bz (.gV []) [some (.box [lv (aN af),.acc 1,.acc 3]),some (.acc 3 (bQ (gj c a b))),some .dead,some (.acc 220 (aY (aj++[⟨a,b,n⟩])))]):=by
 have ea:c[a]=cl c a:=(gX ha).symm
 have eb:c[b]=cl c b:=(gX hb).symm
 obtain⟨f,hf⟩:∃f,max (cl c a) (cl c b)=f:=⟨_,rfl⟩
 obtain⟨t,ht⟩:∃t,min (cl c a) (cl c b)=t:=⟨_,rfl⟩
 have hend:∀i,c.length≤i→fJ c f t i=gj c a b:=fun i hi=>by rw[←hf,←ht];exact F6 hi
 have hss:aY aj++[[.val (.int .i64 (a:Int)),.val (.int .i64 (b:Int)),.val (.int .i64 n)]]=aY (aj++[⟨a,b,n⟩]):=by
  rw[←vi,tJ,ri];rfl
 refine gS (nt:=65) (rs:=[]) hm Tryz.func98 fun hl he cq=>?_
 refine sQ ?_
 simp -implicitDefEqProofs only[go_sem,ha,hb,ea,eb]
 refine iK ?_
 rw[hss]
 rcases aa (cl c a<cl c b) with h0|h0
 ·have ef:f=cl c b:=by omega
  have et:t=cl c a:=by omega
  simp -implicitDefEqProofs only[go_sem,h0]
  rw[←ef,←et]
  refine aL hm (fun(i:Nat)=> i≤c.length) (fun(i:Nat)=> ⟨dx 65 .any [(0,.ptr 0 0),(8,iv f),(9,iv t),(47,.acc 1),(48,iv c.length),(49,iv i)],[some (.box [lv (aN af),.acc 1,.acc 3]),some (.acc 3 (bQ (fJ c f t i))),some .dead,some (.acc 220 (aY (aj++[⟨a,b,n⟩])))]⟩) (fun(i:Nat)=> c.length-i) (0) ?_ (ar [some 0,some 1,some 2,some 3] ?_ ?_ rfl rfl) ?_
  rotate_left
  ·exact sC
  ·refine sA ?_
   all_goals((simp[fJ]))
  rotate_left
  ·omega
  ·rintro i hi
   have hjl:=sF c f t i
   rcases aa (i<c.length) with h1|h1
   ·have h1':i<(fJ c f t i).length:=by omega
    have eg:=rC (f:=f) (t:=t) h1 h1'
    rcases aa (c[i]=f) with h2|h2
    ·have k2:(c[i]=f)=True:=eq_true h2
     have hp:=uW (l:=fJ c f t i) (i:=i) (n:=t) h1'
     have hn:=qn (f:=f) (t:=t) h1
     rw[if_pos h2] at hn
     rw[pn h1',eg] at hp
     simp -implicitDefEqProofs only[go_sem,hjl,h1,eg,k2]
     refine sQ ?_
     refine⟨i+1,?_,sL,ar [some 0,some 1,some 2,some 3] ?_ ?_ rfl rfl⟩
     rotate_left
     ·exact sC
     ·refine sA ?_
      all_goals((rw[hp,hn]))
     exact h1
    ·have hn:=tq (f:=f) (t:=t) h1 h2
     simp -implicitDefEqProofs only[go_sem,hjl,h1,eg,h2]
     refine sQ ?_
     refine⟨i+1,?_,sL,ar [some 0,some 1,some 2,some 3] ?_ ?_ rfl rfl⟩
     rotate_left
     ·exact sC
     ·refine sA ?_
      all_goals((rw[hn]))
     exact h1
   ·rw[hend i (by omega)] at hjl⊢
    refine uA ?_
    refine bZ [some 0,some 1,some 2,some 3] ?_ rfl rfl
    exact sC
 ·have ef:f=cl c a:=by omega
  have et:t=cl c b:=by omega
  simp -implicitDefEqProofs only[go_sem,h0]
  rw[←ef,←et]
  refine aL hm (fun(i:Nat)=> i≤c.length) (fun(i:Nat)=> ⟨dx 65 .any [(0,.ptr 0 0),(8,iv f),(9,iv t),(47,.acc 1),(48,iv c.length),(49,iv i)],[some (.box [lv (aN af),.acc 1,.acc 3]),some (.acc 3 (bQ (fJ c f t i))),some .dead,some (.acc 220 (aY (aj++[⟨a,b,n⟩])))]⟩) (fun(i:Nat)=> c.length-i) (0) ?_ (ar [some 0,some 1,some 2,some 3] ?_ ?_ rfl rfl) ?_
  rotate_left
  ·exact sC
  ·refine sA ?_
   all_goals((simp[fJ]))
  rotate_left
  ·omega
  ·rintro i hi
   have hjl:=sF c f t i
   rcases aa (i<c.length) with h1|h1
   ·have h1':i<(fJ c f t i).length:=by omega
    have eg:=rC (f:=f) (t:=t) h1 h1'
    rcases aa (c[i]=f) with h2|h2
    ·have k2:(c[i]=f)=True:=eq_true h2
     have hp:=uW (l:=fJ c f t i) (i:=i) (n:=t) h1'
     have hn:=qn (f:=f) (t:=t) h1
     rw[if_pos h2] at hn
     rw[pn h1',eg] at hp
     simp -implicitDefEqProofs only[go_sem,hjl,h1,eg,k2]
     refine sQ ?_
     refine⟨i+1,?_,sL,ar [some 0,some 1,some 2,some 3] ?_ ?_ rfl rfl⟩
     rotate_left
     ·exact sC
     ·refine sA ?_
      all_goals((rw[hp,hn]))
     exact h1
    ·have hn:=tq (f:=f) (t:=t) h1 h2
     simp -implicitDefEqProofs only[go_sem,hjl,h1,eg,h2]
     refine sQ ?_
     refine⟨i+1,?_,sL,ar [some 0,some 1,some 2,some 3] ?_ ?_ rfl rfl⟩
     rotate_left
     ·exact sC
     ·refine sA ?_
      all_goals((rw[hn]))
     exact h1
   ·rw[hend i (by omega)] at hjl⊢
    refine uA ?_
    refine bZ [some 0,some 1,some 2,some 3] ?_ rfl rfl
    exact sC
theorem Ir(af:List Term)(eqs:List fO)(hk:gR af)(kG:∀e∈eqs,e.A∈af∧e.B∈af)(o5:af.length≤1000)(hk9:∀t∈af,t.kids.length≤1000)(he9:eqs.length≤1000) :
 C E.P 42 [lv (aN af),lv (cO eqs)] [] (bz (.ptr 0 0) [some (.box [lv (aN af),lv (bQ (closed af eqs).1),lv (aY (closed af eqs).2)])]):=by
 refine gS (nt:=82) (rs:=[.tmp 4]) hm Tryz.func42 fun hl he cq=>?_
 refine aL hm (fun(i:Nat)=> i≤af.length) (fun(i:Nat)=> ⟨dx 82 .any [(1,lv (cO eqs)),(5,.ptr 0 0),(18,iv af.length),(19,iv i)],[some (.box [lv (aN af),.acc 1,.acc 2]),some (.acc 3 (bQ (bx i))),some (.acc 220 (aY []))]⟩) (fun(i:Nat)=> af.length-i) (0) ?_ (ar [some 0,none,none] ?_ ?_ rfl rfl) ?_
 rotate_left
 ·exact sC
 ·refine sA ?_
  all_goals(rfl)
 rotate_left
 ·omega
 ·rintro i hi
  have hrl:(bx i).length=i:=List.length_range
  rcases aa (i<af.length) with h1|h1
  ·refine uA ?_
   refine sQ ?_
   refine⟨i+1,?_,sL,ar [some 0,some 3,some 2] ?_ ?_ rfl rfl⟩
   rotate_left
   ·exact sC
   ·refine sA ?_
    all_goals((rw[←lZ];rfl))
   exact h1
  ·obtain rfl:i=af.length:=by omega
   refine uA ?_
   clear hi h1
   refine kS hm (fun(n:Nat) (c:List Nat) (aj:List Step)=> n≤eqs.length∧c.length=af.length∧(∀x∈c,x≤1000)∧aj.length≤n∧given af eqs=iZ af n (eqs.drop n) c aj) (fun(n:Nat) (c:List Nat) (aj:List Step)=> ⟨dx 82 .any [(5,.ptr 0 0),(33,lv (cO eqs)),(34,iv eqs.length),(35,iv n)],[some (.box [lv (aN af),.acc 1,.acc 2]),some (.acc 3 (bQ c)),some (.acc 220 (aY aj))]⟩) (fun(n:Nat) (c:List Nat) (aj:List Step)=> eqs.length-n) (0) (bx af.length) ([]) ?_ (ar [some 0,some 1,some 2] ?_ ?_ rfl rfl) ?_
   rotate_left
   ·exact sC
   ·exact sC
   rotate_left
   ·exact⟨bc _,hrl,fun x hx=>by have:=List.mem_range.1 hx;omega,aJ _,rfl⟩
   ·rintro n c aj ⟨hn,hc,hm9,hs,hg⟩
    rcases aa (n<eqs.length) with h1|h1
    ·obtain⟨mA,mB⟩:=kG _ (ak h1)
     have pA:=bA mA
     have pB:=bA mB
     have cA:=cd mA
     have cB:=cd mB
     have pA':aG af eqs[n].A<c.length:=by omega
     have pB':aG af eqs[n].B<c.length:=by omega
     have eA:c[aG af eqs[n].A]=cl c (aG af eqs[n].A):=(gX pA').symm
     have eB:c[aG af eqs[n].B]=cl c (aG af eqs[n].B):=(gX pB').symm
     have hj1:=fK c (aG af eqs[n].A) (aG af eqs[n].B)
     have hj2:=wV (a:=aG af eqs[n].A) (b:=aG af eqs[n].B) hm9
     have cj:=Jn af c aj (aG af eqs[n].A) (aG af eqs[n].B) n pA' pB' (by omega) (by omega)
     have ca:=CB af c aj eqs[n].A
     have cb:=CB af c aj eqs[n].B
     rw[cA] at ca
     rw[cB] at cb
     rw[List.drop_eq_getElem_cons h1,iZ] at hg
     refine uA ?_
     refine dH [] [0,1,2] ca rfl ?_ ?_ ?_
     ·exact sV
     all_goals simp -implicitDefEqProofs only[go_sem]
     refine dH [] [0,1,2] cb rfl ?_ ?_ ?_
     ·exact sV
     all_goals simp -implicitDefEqProofs only[go_sem]
     refine iK ?_
     generalize aG af eqs[n].A=a at *
     generalize aG af eqs[n].B=b at *
     rcases aa (cl c a=cl c b) with h2|h2
     ·have k2:(cl c a=cl c b)=True:=eq_true h2
      rw[if_pos h2] at hg
      simp -implicitDefEqProofs only[go_sem,pA',pB',eA,eB,k2]
      refine iK ?_
      refine sQ ?_
      refine⟨n+1,c,aj,?_,sL,ar [some 0,some 1,some 2] ?_ ?_ rfl rfl⟩
      rotate_left
      ·exact sC
      ·exact sC
      exact⟨by omega,hc,hm9,by omega,hg⟩
     ·rw[if_neg h2] at hg
      simp -implicitDefEqProofs only[go_sem,pA',pB',eA,eB,h2]
      refine iK ?_
      refine gw [] [0,1,2,4] cj ?_ ?_
      ·refine sA ?_
       first|rfl|((repeat' apply au)<;>rfl)
      refine sA ?_
      refine sQ ?_
      refine⟨n+1,gj c a b,aj++[⟨a,b,n⟩],?_,sL,ar [some 0,some 1,some 4] ?_ ?_ rfl rfl⟩
      rotate_left
      ·exact sC
      ·exact sC
      exact⟨by omega,by omega,hj2,by simp;omega,hg⟩
    ·rw[ai (by omega),iZ] at hg
     have hcl:closed af eqs=kh af c.sum c aj:=by rw[closed,hg]
     have hsum:=pq hm9
     have hsum2:c.length*1000≤1000*1000:=Nat.mul_le_mul_right _ (by omega)
     refine uA ?_
     refine kS hm (fun(f:Nat) (c:List Nat) (aj:List Step)=> c.length=af.length∧(∀x∈c,x≤1000)∧c.sum≤f∧aj.length+f≤1999000∧closed af eqs=kh af f c aj) (fun(f:Nat) (c:List Nat) (aj:List Step)=> ⟨dx 82 .any [(5,.ptr 0 0)],[some (.box [lv (aN af),.acc 1,.acc 2]),some (.acc 3 (bQ c)),some (.acc 220 (aY aj))]⟩) (fun(f:Nat) (c:List Nat) (aj:List Step)=> f) (c.sum) (c) (aj) ?_ (ar [some 0,some 1,some 2] ?_ ?_ rfl rfl) ?_
     rotate_left
     ·exact sC
     ·exact sC
     rotate_left
     ·exact⟨hc,hm9,aJ _,by omega,hcl⟩
     ·clear hcl hsum hsum2 hg h1 hn hc hm9 hs
      rintro f c aj ⟨hc,hm9,hf,hs,hg⟩
      have cn:=Uc af c aj hk hc o5 hk9
      refine sA ?_
      refine gw [] [0,1,2] cn ?_ ?_
      ·refine sA ?_
       first|rfl|((repeat' apply au)<;>rfl)
      refine sA ?_
      cases hp:fD af c with
      | none=>
        rw[vr hp] at hg
        refine uK ?_
        refine bZ [some 0] ?_ rfl rfl
        refine sA ?_
        rw[hg]
        ((repeat' apply au)<;>rfl)
      | some p=>
        obtain⟨f',rfl,hg2,hf2⟩:=vW (aj:=aj) hf hc hp
        obtain⟨p1,p2,p3,p4⟩:=qb hp
        rw[hg2] at hg
        have hj1:=fK c p.1 p.2
        have hj2:=wV (a:=p.1) (b:=p.2) hm9
        have cj:=Jn af c aj p.1 p.2 (-1) (by omega) (by omega) (by omega) (by omega)
        obtain⟨a,b⟩:=p
        simp only at hg hg2 hf2 p1 p2 hj1 hj2 cj
        refine uL ?_
        refine gw [] [0,1,2,3] cj ?_ ?_
        ·refine sA ?_
         first|rfl|((repeat' apply au)<;>rfl)
        refine sA ?_
        refine⟨f',gj c a b,aj++[⟨a,b,-1⟩],?_,sL,ar [some 0,some 1,some 3] ?_ ?_ rfl rfl⟩
        rotate_left
        ·exact sC
        ·exact sC
        exact⟨by omega,hj2,hf2,by simp;omega,hg⟩
theorem BP{l:List Mod.Edge}{i:Nat}{x:Mod.Edge}(h:i<l.length):(dp l).set i (sS (row (dp l) i) 0 [.val (.int .i64 (x.step:Int)),.val (.bool x.back)])=dp (l.set i x):=by
 rw[vM h,←LO]
 rfl
theorem JR{ys:List Mod.Edge}{i j:Nat}(hi:i<ys.length)(hj:j<ys.length):((dp ys).set i (sS [.val (.int .i64 (ys[i].step:Int)),.val (.bool ys[i].back)] 0 [.val (.int .i64 (ys[j].step:Int)),.val (.bool ys[j].back)])).set j (sS (row ((dp ys).set i (sS [.val (.int .i64 (ys[i].step:Int)),.val (.bool ys[i].back)] 0 [.val (.int .i64 (ys[j].step:Int)),.val (.bool ys[j].back)])) j) 0 [.val (.int .i64 (ys[i].step:Int)),.val (.bool ys[i].back)])=dp ((ys.set i ys[j]).set j ys[i]):=by
 have h1:(dp ys).set i (sS [.val (.int .i64 (ys[i].step:Int)),.val (.bool ys[i].back)] 0 [.val (.int .i64 (ys[j].step:Int)),.val (.bool ys[j].back)])=dp (ys.set i ys[j]):=by
  have h:=BP (x:=ys[j]) hi
  rw[vM hi] at h
  exact h
 rw[h1]
 exact BP (l:=ys.set i ys[j]) (x:=ys[i]) (by simpa using hj)
theorem Gk(l:List Mod.Edge)(o5:l.length≤1000):C E.P 237 [.acc 0] [some (.acc 233 (dp l))] (bz (.gV []) [some (.acc 233 (dp l.reverse))]):=by
 refine gS (nt:=28) (rs:=[]) hm Tryz.func237 fun hl he cq=>?_
 try simp -implicitDefEqProofs only[go_sem,Z1,Z2,Z3,Z4]
 refine sJ ?_
 refine cM hm (fun(i:Nat) (ys:List Mod.Edge)=> i≤l.length∧LP l ys i) (fun(i:Nat) (ys:List Mod.Edge)=> ⟨dx 28 .any [(0,.acc 0),(2,iv i),(3,iv ((l.length:Int)-1-(i:Int)))],[some (.acc 233 (dp ys))]⟩) (fun(i:Nat) (ys:List Mod.Edge)=> l.length-i) (0) (l) ?_ (ar [some 0] ?_ ?_ rfl rfl) ?_
 rotate_left
 ·refine sA ?_
  all_goals(first|done|(simp[*];done)|(simp[aI];done)|(simp;omega)|skip)
 ·refine sA ?_
  all_goals(try exact sM)
 rotate_left
 ·exact⟨bc _,LP.zero l⟩
 ·rintro i ys ⟨hi,hr⟩
  have dy:=hr.len
  rcases aa ((i:Int)<(l.length:Int)-1-(i:Int)) with h1|h1
  ·obtain⟨j,hj⟩:∃j:Nat,(l.length:Int)-1-(i:Int)=j:=⟨l.length-1-i,by omega⟩
   have hi':i<ys.length:=by omega
   have hj':j<ys.length:=by omega
   have jw:=hr.step (by omega:i<j) (by omega) hi' hj'
   rw[hj] at h1⊢
   try simp -implicitDefEqProofs only[go_sem,h1,hi',hj']
   refine sJ ?_
   refine⟨i+1,(ys.set i ys[j]).set j ys[i],?_,sL,ar [some 0] ?_ ?_ rfl rfl⟩
   rotate_left
   ·refine sA ?_
    all_goals(first|done|(exact JR hi' hj')|(simp[*];done)|(simp[];done)|(simp;omega)|skip)
   ·refine sA ?_
    all_goals(first|done|(exact JR hi' hj')|(simp[aI, *];done)|(simp[aI];done)|(simp;omega)|skip)
   exact⟨by omega,jw⟩
  ·have hd:=hr.done (by omega)
   try simp -implicitDefEqProofs only[go_sem,h1]
   refine sI ?_
   refine bZ [some 0] ?_ rfl rfl
   refine sA ?_
   rw[hd]
theorem ZI(af:List Term)(eqs:List fO)(c:List Nat)(aj:List Step)(eW:lz af eqs aj)(o5:af.length≤1000)(hs9:aj.length≤2000000)(n a b:Nat)(hn:n≤aj.length)(ha:a<af.length)(hb:b<af.length)(hab:cl (aR af.length aj n) a=cl (aR af.length aj n) b) :
 C E.P 181 [.ptr 0 0,iv a,iv b,iv n] [some (.box [lv (aN af),lv (bQ c),lv (aY aj)])] (bz (lv (dp (lR af.length aj n a b))) [some (.box [lv (aN af),lv (bQ c),lv (aY aj)])]):=by
 have cq:=jT
 refine HA (nt:=116) (rs:=[.tmp 8]) Tryz.func181 rfl rfl rfl rfl rfl (fun hl he=>?_)
 simp -implicitDefEqProofs only[go_sem] at hl he⊢
 obtain⟨N,hN⟩:∃N,af.length=N:=⟨_,rfl⟩
 have hvb:∀k (h:k<aj.length),aj[k].A=(vA aj k:Int)∧aj[k].B=(vB aj k:Int):=fun k h=>by
  have hs:=r6 h
  have hso:=oL eW h
  have a0:=hso.a0
  have b0:=hso.b0
  rw[hs] at a0 b0
  rw[vA,vB,hs]
  omega
 obtain⟨ss,hss⟩:∃ss,aj.take n=ss:=⟨_,rfl⟩
 have htk:ss.length=n:=by rw[←hss,List.length_take];omega
 have hsl:List.take (n-0) (fx 0 (aY aj))=aY ss:=by rw[←hss];simp[aY]
 have hsg:∀k (h:k<ss.length) (h':k<aj.length),ss[k]=aj[k]:=fun k h h'=>by subst hss;exact List.getElem_take
 refine fl (iI hm ?_)
 try simp -implicitDefEqProofs only[go_sem,dW,dS]
 refine sI ?_
 refine fl (oB ?_)
 refine iY rfl (fg (Nx 273 1 rfl) ?_)
 try simp -implicitDefEqProofs only[go_sem]
 refine sI ?_
 refine iY rfl (fu ?_)
 try simp -implicitDefEqProofs only[go_sem]
 refine sI ?_
 refine wc ?_
 simp -implicitDefEqProofs only[go_sem,dS]
 refine fl (oB ?_)
 refine iY rfl (fu ?_)
 try simp -implicitDefEqProofs only[go_sem]
 refine sI ?_
 refine iY rfl (fg (pf 38 3 1 2 _ _ _ [[.val (.int .i64 (a:Int))]] rfl rfl rfl rfl rfl (by simp -implicitDefEqProofs only[go_sem]) rfl (by decide) rfl) ?_)
 try simp -implicitDefEqProofs only[go_sem]
 refine sI ?_
 refine iY rfl (fu ?_)
 try simp -implicitDefEqProofs only[go_sem]
 refine sI ?_
 refine wc ?_
 simp -implicitDefEqProofs only[go_sem,dS]
 refine fl (oB ?_)
 refine iY rfl (fg (Nx 274 3 rfl) ?_)
 try simp -implicitDefEqProofs only[go_sem]
 refine sI ?_
 refine iY rfl (fu ?_)
 try simp -implicitDefEqProofs only[go_sem]
 refine sI ?_
 refine iY rfl (fg (rV _ _ _ _ 274 3 4 3 [] (a:Int) (.bool true) (.inr rfl) rfl rfl (by simp -implicitDefEqProofs only[go_sem]) (by simp -implicitDefEqProofs only[go_sem]) (by simp -implicitDefEqProofs only[go_sem]) (by simp -implicitDefEqProofs only[go_sem]) rfl rfl) ?_)
 try simp -implicitDefEqProofs only[go_sem]
 refine sI ?_
 refine iY rfl (fu ?_)
 try simp -implicitDefEqProofs only[go_sem]
 refine sI ?_
 refine iY rfl (fu ?_)
 try simp -implicitDefEqProofs only[go_sem]
 refine sI ?_
 refine wc ?_
 simp -implicitDefEqProofs only[go_sem,dS]
 refine iI hm ?_
 try simp -implicitDefEqProofs only[go_sem]
 refine sI ?_
 refine cM hm (fun(i:Nat) (ct:List (Nat×Mod.Edge))=> i≤ct.length∧Zw af.length aj n a ct∧vo aj n ct i) (fun(i:Nat) (ct:List (Nat×Mod.Edge))=> ⟨dx 116 .any [(0,.ptr 0 0),(1,iv a),(2,iv b),(3,iv n),(9,.acc 1),(10,.acc 2),(11,.acc 3),(12,iv i)],[some (.box [lv (aN af),lv (bQ c),lv (aY aj)]),some (.map (ox ct)),some (.acc 3 (bQ (iO ct))),some (.map (AE ct))]⟩) (fun(i:Nat) (ct:List (Nat×Mod.Edge))=> af.length+1-i) (0) ([(a,⟨0,false⟩)]) ?_ (ar [some 0,some 1,some 2,some 3] ?_ ?_ rfl rfl) ?_
 rotate_left
 ·refine sA ?_
  all_goals(first|done|(((repeat' apply au)<;>rfl))|(simp[aI, *];done)|(simp[aI];done)|(simp;omega)|skip)
 ·refine sA ?_
  all_goals(first|done|(((repeat' apply au)<;>rfl))|(simp[aI, *];done)|(simp[aI];done)|(simp;omega)|skip)
 rotate_left
 ·exact⟨bc _,Sc ha _,fun j v hj=>by omega⟩
 ·rintro i ct ⟨hi,hM,hT⟩
  have hdl:=RL hM
  have hfl:=uO ct
  rcases aa (i<ct.length) with h1|h1
  ·have h1':i<(iO ct).length:=by omega
   obtain⟨v,hv⟩:∃v,(iO ct)[i]=v:=⟨_,rfl⟩
   have hv':(iO ct)[i]?=some v:=by rw[ah h1',hv]
   have f1:n≤aj.length∧∀y∈aY aj,y.length=3:=⟨hn,Kr _⟩
   have hln:min (n-0) (fx 0 (aY aj)).length=n:=by simp[aY];omega
   try simp -implicitDefEqProofs only[go_sem,hfl,h1]
   refine sJ ?_
   try simp -implicitDefEqProofs only[go_sem,hsl,hln]
   refine sI ?_
   refine cM hm (fun(k:Nat) (ct:List (Nat×Mod.Edge))=> k≤n∧i<ct.length∧(iO ct)[i]?=some v∧Zw af.length aj n a ct∧vo aj n ct i∧zR aj k ct v) (fun(k:Nat) (ct:List (Nat×Mod.Edge))=> ⟨dx 116 .any [(0,.ptr 0 0),(1,iv a),(2,iv b),(3,iv n),(9,.acc 1),(10,.acc 2),(11,.acc 3),(12,iv i),(37,lv (aY ss)),(38,iv n),(39,iv k)],[some (.box [lv (aN af),lv (bQ c),lv (aY aj)]),some (.map (ox ct)),some (.acc 3 (bQ (iO ct))),some (.map (AE ct))]⟩) (fun(k:Nat) (ct:List (Nat×Mod.Edge))=> n-k) (0) (ct) ?_ (ar [some 0,some 1,some 2,some 3] ?_ ?_ rfl rfl) ?_
   rotate_left
   ·refine sA ?_
    all_goals(try exact sM)
   ·refine sA ?_
    all_goals(try exact sM)
   rotate_left
   ·exact⟨bc _,h1,hv',hM,hT,MY _ _ _⟩
   ·clear hM hT hdl hfl h1 h1' hv hv' hi
    rintro k ct ⟨hk,h1,hv',hM,hT,hS⟩
    have hdl:=RL hM
    have hfl:=uO ct
    have h1':i<(iO ct).length:=by omega
    have hv:(iO ct)[i]=v:=by
     rw[ah h1'] at hv'
     simpa using hv'
    rcases aa (k<n) with h2|h2
    ·have h2':k<ss.length:=by omega
     have h3:k<aj.length:=by omega
     obtain⟨eA,eB⟩:=hvb k h3
     have eg:ss[k]=aj[k]:=hsg k h2' h3
     have a1:=Hc eW h3
     have b1:=F0 eW h3
     rcases aa (vB aj k=v) with hB|hB
     ·have kB:=eq_true hB
      rcases aa (vA aj k=v) with hA|hA
      ·have kA:=eq_true hA
       have hmet:v∈iO ct:=by rw[←hv];exact ak h1'
       rw[hA] at eA
       rw[hB] at eB
       try simp -implicitDefEqProofs only[go_sem,h2,h2',eg,eA,eB,hfl,h1,hv]
       refine sJ ?_
       refine fg (tl (.tmp 66) (.tmp 67) 274 3 4 3 (AE ct) (v:Int) (.bool true) rfl rfl (by simp -implicitDefEqProofs only[go_sem]) (by simp -implicitDefEqProofs only[go_sem]) (by simp -implicitDefEqProofs only[go_sem]) (Aw hmet)) ?_
       try simp -implicitDefEqProofs only[go_sem]
       refine sJ ?_
       refine⟨k+1,ct,?_,sL,ar [some 0,some 1,some 2,some 3] ?_ ?_ rfl rfl⟩
       rotate_left
       ·refine sA ?_
        all_goals(try exact sM)
       ·refine sA ?_
        all_goals(try exact sM)
       exact⟨by omega,h1,hv',hM,hT,n8 hS (fun _=>by rw[hB];exact hmet) (fun _=>by rw[hA];exact hmet)⟩
      ·have es:gF aj ⟨k,true⟩=v:=hB
       have ee:ij aj ⟨k,true⟩=vA aj k:=rfl
       obtain⟨w,hw⟩:∃w,vA aj k=w:=⟨_,rfl⟩
       rw[hw] at eA a1 ee hA
       rw[hB] at eB
       rcases aa (w∈iO ct) with hmet|hmet
       ·try simp -implicitDefEqProofs only[go_sem,h2,h2',eg,eA,eB,hfl,h1,hv]
        refine sJ ?_
        refine fg (tl (.tmp 66) (.tmp 67) 274 3 4 3 (AE ct) (w:Int) (.bool true) rfl rfl (by simp -implicitDefEqProofs only[go_sem]) (by simp -implicitDefEqProofs only[go_sem]) (by simp -implicitDefEqProofs only[go_sem]) (Aw hmet)) ?_
        try simp -implicitDefEqProofs only[go_sem]
        refine sJ ?_
        refine⟨k+1,ct,?_,sL,ar [some 0,some 1,some 2,some 3] ?_ ?_ rfl rfl⟩
        rotate_left
        ·refine sA ?_
         all_goals(try exact sM)
        ·refine sA ?_
         all_goals(try exact sM)
        exact⟨by omega,h1,hv',hM,hT,n8 hS (fun h=>absurd (hw▸h) hA) (fun _=>by rw[hw];exact hmet)⟩
       ·try simp -implicitDefEqProofs only[go_sem,h2,h2',eg,eA,eB,hfl,h1,hv]
        refine sJ ?_
        have hd0:0<ct.length:=by omega
        refine fg (AS (.tmp 66) (.tmp 67) 274 3 4 3 _ (AE ct) (w:Int) rfl rfl rfl rfl (by simp -implicitDefEqProofs only[go_sem]) (by simp -implicitDefEqProofs only[go_sem]) (by simp -implicitDefEqProofs only[go_sem]) (rh hmet)) ?_
        try simp -implicitDefEqProofs only[go_sem]
        refine sJ ?_
        refine fg (rV _ _ _ _ 274 3 4 3 (AE ct) (w:Int) (.bool true) (.inl rfl) rfl rfl (by simp -implicitDefEqProofs only[go_sem]) (by simp -implicitDefEqProofs only[go_sem]) (by simp -implicitDefEqProofs only[go_sem]) (by simp -implicitDefEqProofs only[go_sem]) rfl (rh hmet)) ?_
        try simp -implicitDefEqProofs only[go_sem]
        refine sJ ?_
        refine fg (rV _ _ _ _ 273 3 233 1 (ox ct) (w:Int) (.agg #[.int .i64 (k:Int),.bool true]) (.inl rfl) rfl rfl (by simp -implicitDefEqProofs only[go_sem]) (by simp -implicitDefEqProofs only[go_sem]) (by simp -implicitDefEqProofs only[go_sem]) (by simp -implicitDefEqProofs only[go_sem]) rfl (rP hmet)) ?_
        try simp -implicitDefEqProofs only[go_sem]
        refine sJ ?_
        refine⟨k+1,ct++[(w,⟨k,true⟩)],?_,sL,ar [some 0,some 1,some 5,some 3] ?_ ?_ rfl rfl⟩
        rotate_left
        ·refine sA ?_
         all_goals(first|done|((rw[s6 hd0,BS,jH,←lZ];(repeat' apply au)<;>rfl))|(simp[aI, *];done)|(simp[aI];done)|(simp;omega)|skip)
        ·refine sA ?_
         all_goals(first|done|((rw[s6 hd0,BS,jH,←lZ];(repeat' apply au)<;>rfl))|(simp[aI, *];done)|(simp[aI];done)|(simp;omega)|skip)
        have hM2:=RF (e:=⟨k,true⟩) hM h2 hv' es (by rw[ee];exact hmet) (by rw[ee];exact a1)
        rw[ee] at hM2
        refine⟨by omega,by simp;omega,by rw[jH,bf h1'];exact hv',hM2,Be (by omega) hT,n8 (DS hS) (fun h=>absurd (hw▸h) hA) (fun _=>?_)⟩
        rw[hw,jH]
        exact gf _ (by simp[iO])
     ·rcases aa (vA aj k=v) with hA|hA
      ·have es:gF aj ⟨k,false⟩=v:=hA
       have ee:ij aj ⟨k,false⟩=vB aj k:=rfl
       obtain⟨w,hw⟩:∃w,vB aj k=w:=⟨_,rfl⟩
       rw[hw] at eB b1 ee hB
       rw[hA] at eA
       rcases aa (w∈iO ct) with hmet|hmet
       ·try simp -implicitDefEqProofs only[go_sem,h2,h2',eg,eA,eB,hfl,h1,hv,hB]
        refine sJ ?_
        refine fg (tl (.tmp 66) (.tmp 67) 274 3 4 3 (AE ct) (w:Int) (.bool true) rfl rfl (by simp -implicitDefEqProofs only[go_sem]) (by simp -implicitDefEqProofs only[go_sem]) (by simp -implicitDefEqProofs only[go_sem]) (Aw hmet)) ?_
        try simp -implicitDefEqProofs only[go_sem]
        refine sJ ?_
        refine⟨k+1,ct,?_,sL,ar [some 0,some 1,some 2,some 3] ?_ ?_ rfl rfl⟩
        rotate_left
        ·refine sA ?_
         all_goals(try exact sM)
        ·refine sA ?_
         all_goals(try exact sM)
        exact⟨by omega,h1,hv',hM,hT,n8 hS (fun _=>by rw[hw];exact hmet) (fun h=>absurd (hw▸h) hB)⟩
       ·try simp -implicitDefEqProofs only[go_sem,h2,h2',eg,eA,eB,hfl,h1,hv,hB]
        refine sJ ?_
        have hd0:0<ct.length:=by omega
        refine fg (AS (.tmp 66) (.tmp 67) 274 3 4 3 _ (AE ct) (w:Int) rfl rfl rfl rfl (by simp -implicitDefEqProofs only[go_sem]) (by simp -implicitDefEqProofs only[go_sem]) (by simp -implicitDefEqProofs only[go_sem]) (rh hmet)) ?_
        try simp -implicitDefEqProofs only[go_sem]
        refine sJ ?_
        refine fg (rV _ _ _ _ 274 3 4 3 (AE ct) (w:Int) (.bool true) (.inl rfl) rfl rfl (by simp -implicitDefEqProofs only[go_sem]) (by simp -implicitDefEqProofs only[go_sem]) (by simp -implicitDefEqProofs only[go_sem]) (by simp -implicitDefEqProofs only[go_sem]) rfl (rh hmet)) ?_
        try simp -implicitDefEqProofs only[go_sem]
        refine sJ ?_
        refine fg (rV _ _ _ _ 273 3 233 1 (ox ct) (w:Int) (.agg #[.int .i64 (k:Int),.bool false]) (.inl rfl) rfl rfl (by simp -implicitDefEqProofs only[go_sem]) (by simp -implicitDefEqProofs only[go_sem]) (by simp -implicitDefEqProofs only[go_sem]) (by simp -implicitDefEqProofs only[go_sem]) rfl (rP hmet)) ?_
        try simp -implicitDefEqProofs only[go_sem]
        refine sJ ?_
        refine⟨k+1,ct++[(w,⟨k,false⟩)],?_,sL,ar [some 0,some 1,some 5,some 3] ?_ ?_ rfl rfl⟩
        rotate_left
        ·refine sA ?_
         all_goals(first|done|((rw[s6 hd0,BS,jH,←lZ];(repeat' apply au)<;>rfl))|(simp[aI, *];done)|(simp[aI];done)|(simp;omega)|skip)
        ·refine sA ?_
         all_goals(first|done|((rw[s6 hd0,BS,jH,←lZ];(repeat' apply au)<;>rfl))|(simp[aI, *];done)|(simp[aI];done)|(simp;omega)|skip)
        have hM2:=RF (e:=⟨k,false⟩) hM h2 hv' es (by rw[ee];exact hmet) (by rw[ee];exact b1)
        rw[ee] at hM2
        refine⟨by omega,by simp;omega,by rw[jH,bf h1'];exact hv',hM2,Be (by omega) hT,n8 (DS hS) (fun _=>?_) (fun h=>absurd (hw▸h) hB)⟩
        rw[hw,jH]
        exact gf _ (by simp[iO])
      ·try simp -implicitDefEqProofs only[go_sem,h2,h2',eg,eA,eB,hfl,h1,hv,hB,hA]
       refine sJ ?_
       refine⟨k+1,ct,?_,sL,ar [some 0,some 1,some 2,some 3] ?_ ?_ rfl rfl⟩
       rotate_left
       ·refine sA ?_
        all_goals(try exact sM)
       ·refine sA ?_
        all_goals(try exact sM)
       exact⟨by omega,h1,hv',hM,hT,n8 hS (fun h=>absurd h hA) (fun h=>absurd h hB)⟩
    ·obtain rfl:k=n:=by omega
     try simp -implicitDefEqProofs only[go_sem,h2]
     refine sJ ?_
     refine⟨i+1,ct,?_,sL,ar [some 0,some 1,some 2,some 3] ?_ ?_ rfl rfl⟩
     rotate_left
     ·refine sA ?_
      all_goals(try exact sM)
     ·refine sA ?_
      all_goals(try exact sM)
     exact⟨by omega,hM,LS hT hv' (QG hS)⟩
  ·obtain rfl:i=ct.length:=by omega
   obtain⟨w1,w2,w3⟩:=rD eW hn ha hb hab
   have hbm:b∈iO ct:=Cb hT w1 w2 (c9 hM.head)
   obtain⟨j0,hj0,hjb⟩:=List.mem_iff_getElem.1 hbm
   have hjb':(iO ct)[j0]?=some b:=by rw[ah hj0,hjb]
   try simp -implicitDefEqProofs only[go_sem,hfl,h1]
   refine sI ?_
   refine kS hm (fun(j:Nat) (t:Nat) (out:List Mod.Edge)=> Us aj n b ct j t out) (fun(j:Nat) (t:Nat) (out:List Mod.Edge)=> ⟨dx 116 .any [(0,.ptr 0 0),(1,iv a),(2,iv t),(9,.acc 1),(18,.acc 2)],[some (.box [lv (aN af),lv (bQ c),lv (aY aj)]),some (.map (ox ct)),some (.acc 233 (dp out))]⟩) (fun(j:Nat) (t:Nat) (out:List Mod.Edge)=> j) (j0) (b) ([]) ?_ (ar [some 0,some 1,none] ?_ ?_ rfl rfl) ?_
   rotate_left
   ·refine sA ?_
    all_goals(first|done|(rfl)|(simp[aI, *];done)|(simp[aI];done)|(simp;omega)|skip)
   ·refine sA ?_
    all_goals(first|done|(rfl)|(simp[aI, *];done)|(simp[aI];done)|(simp;omega)|skip)
   rotate_left
   ·exact O4 hjb'
   ·rintro j t out hB
    have hjl:j<ct.length:=by
     rw[←hfl]
     exact(List.getElem?_eq_some_iff.1 hB.at_).1
    have htl:t<af.length:=hM.lt t (c9 hB.at_)
    have hol:out.length≤1000:=by
     have h5:=kd hB.W5 (fun v hv=>by
      simp only[gL,List.mem_cons,List.mem_map] at hv
      rcases hv with rfl|⟨d,hd,rfl⟩
      ·exact htl
      ·exact yp eW (by have:=hB.in_ d hd;omega))
     simp[gL] at h5
     omega
    rcases aa (t=a) with h2|h2
    ·have k2:=eq_true h2
     have hbk:=hB
     rw[h2] at hbk
     have hout:=Vl eW hn ha hbk
     try simp -implicitDefEqProofs only[go_sem,k2]
     refine sI ?_
     refine oC [] [2] (Gk out hol) ?_
     refine sI ?_
     try simp -implicitDefEqProofs only[go_sem,Z1,Z2,Z3,Z4,dW,dS,yo]
     refine sI ?_
     refine eP ?_
     refine bZ [some 0] ?_ rfl rfl
     refine sA ?_
     rw[hout]
     exact⟨rfl,rfl⟩
    ·have hj:0<j:=by
      rcases Nat.eq_zero_or_pos j with h5|h5
      ·have h6:=hM.head
       have h7:=hB.at_
       rw[h5,h6] at h7
       exact absurd (Option.some.inj h7).symm h2
      ·exact h5
     obtain⟨⟨t',e⟩,hde⟩:∃x,ct[j]?=some x:=⟨ct[j],ah hjl⟩
     have htt:t'=t:=by
      have h7:=hB.at_
      rw[iO,List.getElem?_map,hde] at h7
      exact Option.some.inj h7
     rw[htt] at hde
     have hmg:=IP hM.W5 hj hde
     obtain⟨i2,hi2,hB2⟩:=SR hM hB hde hj
     have hes:=(hM.by_ j t e hde hj).1
     have h3:e.step<aj.length:=by omega
     obtain⟨eA,eB⟩:=hvb e.step h3
     try simp -implicitDefEqProofs only[go_sem,h2]
     refine sI ?_
     refine fg (tl (.tmp 86) (.tmp 87) 273 3 233 1 (ox ct) (t:Int) (.agg #[.int .i64 (e.step:Int),.bool e.back]) rfl rfl (by simp -implicitDefEqProofs only[go_sem]) (by simp -implicitDefEqProofs only[go_sem]) (by simp -implicitDefEqProofs only[go_sem]) hmg) ?_
     cases hb2:e.back
     ·have es:gF aj e=vA aj e.step:=by rw[gF,hb2];rfl
      rw[es] at hB2
      try simp -implicitDefEqProofs only[go_sem,h3,eA,eB]
      refine sJ ?_
      try simp -implicitDefEqProofs only[go_sem,Z1,Z2,Z3,Z4,h3,eA,eB]
      refine sJ ?_
      refine⟨i2,vA aj e.step,out++[e],?_,sL,ar [some 0,some 1,some 4] ?_ ?_ rfl rfl⟩
      rotate_left
      ·refine sA ?_
       all_goals(first|done|((rw[←rk,qh,oI,zt,hb2]))|(simp[aI, *];done)|(simp[aI];done)|(simp;omega)|skip)
      ·refine sA ?_
       all_goals(first|done|((rw[←rk,qh,oI,zt,hb2]))|(simp[aI, *];done)|(simp[aI];done)|(simp;omega)|skip)
      exact hB2
     ·have es:gF aj e=vB aj e.step:=by rw[gF,hb2];rfl
      rw[es] at hB2
      try simp -implicitDefEqProofs only[go_sem,h3,eA,eB]
      refine sJ ?_
      try simp -implicitDefEqProofs only[go_sem,Z1,Z2,Z3,Z4,h3,eA,eB]
      refine sJ ?_
      refine⟨i2,vB aj e.step,out++[e],?_,sL,ar [some 0,some 1,some 4] ?_ ?_ rfl rfl⟩
      rotate_left
      ·refine sA ?_
       all_goals(first|done|((rw[←rk,qh,oI,zt,hb2]))|(simp[aI, *];done)|(simp[aI];done)|(simp;omega)|skip)
      ·refine sA ?_
       all_goals(first|done|((rw[←rk,qh,oI,zt,hb2]))|(simp[aI, *];done)|(simp[aI];done)|(simp;omega)|skip)
      exact hB2
end Go.Proofs.YtabembjmeobhoaaGreat
