/-
  The reference: the walk of closures. A step towards the laws.
-/
import Derived.Test.YtabembjmeobhoaaGreatKDP
import Derived.Test.YtabembjmeobhoaaGreatKDEk
import Derived.Test.YtabembjmeobhoaaGreatKDyb
set_option linter.unusedVariables false
set_option linter.unusedSimpArgs false
open And renaming intro→au
open Bool renaming true_and→aB,false_and→aK
open Classical renaming em→aa
open List renaming drop_eq_getElem_cons→ae,getElem?_eq_getElem→ah,drop_of_length_le→ai,getElem_mem→ak,mem_cons→ay,getD_eq_getElem?_getD→aA,mem_append→aP,not_mem_nil→ba,range→bx,nodup_append→dm,range'→dN
open Nat renaming le_refl→aJ,zero_le→bc
open Option renaming isSome_some→aW,getD_some→aX,isSome_none→bE,getD_none→cg
namespace Go.Proofs.YtabembjmeobhoaaGreat
open Go.Eng Go.Mod
open Int renaming reduceEq→Z1,reduceLT→Z2,reduceLE→Z3,reduceToNat→Z4
set_option maxRecDepth 100000
set_option maxHeartbeats 800000
theorem Ic(a b:Nat):C E.P 243 [iv a,iv b] [] (bz (iv ((max a b:Nat):Int)) []):=by
 refine gS (nt:=10) (rs:=[.tmp 4]) hm Tryz.func243 fun hl he cq=>?_
 rcases aa (b<a) with h|h
 ·have e:max a b=a:=by omega
  refine uF ?_
  refine an ?_
  refine sA ?_
  all_goals(simp[e];done)
 ·have e:max a b=b:=by omega
  refine uF ?_
  refine an ?_
  refine sA ?_
  all_goals(simp[e];done)
theorem tW(c:List Nat)(a b:Nat)(ha:a<c.length)(hb:b<c.length)(hl:c.length≤1000)(hc:∀x∈c,x≤1000):C E.P 197 [.acc 0,iv a,iv b] [some (.acc 3 (bQ c))] (bz (.acc 0) [some (.acc 3 (bQ (gj c a b)))]):=by
 have ea:c[a]=cl c a:=(gX ha).symm
 have eb:c[b]=cl c b:=(gX hb).symm
 have la:=hc _ (Ai ha)
 have lb:=hc _ (Ai hb)
 have e1:(cl c a:Int)+(cl c b:Int)-((max (cl c a) (cl c b):Nat):Int)=((min (cl c a) (cl c b):Nat):Int):=by omega
 obtain⟨f,hf⟩:∃f,max (cl c a) (cl c b)=f:=⟨_,rfl⟩
 obtain⟨t,ht⟩:∃t,min (cl c a) (cl c b)=t:=⟨_,rfl⟩
 have hend:∀i,c.length≤i→fJ c f t i=gj c a b:=fun i hi=>by rw[←hf,←ht];exact F6 hi
 rw[hf,ht] at e1
 refine gS (nt:=47) (rs:=[.tmp 6]) hm Tryz.func197 fun hl he cq=>?_
 simp -implicitDefEqProofs only[go_sem,ha,hb,ea,eb]
 refine aC [] (Ic (cl c a) (cl c b)) ?_
 refine iK ?_
 rw[hf]
 simp -implicitDefEqProofs only[go_sem,ha,hb,ea,eb]
 refine sQ ?_
 rw[e1]
 refine aL hm (fun(i:Nat)=> i≤c.length) (fun(i:Nat)=> ⟨dx 47 .any [(0,.acc 0),(7,iv f),(8,iv t),(9,iv i)],[some (.acc 3 (bQ (fJ c f t i)))]⟩) (fun(i:Nat)=> c.length-i) (0) ?_ (ar [some 0] ?_ ?_ rfl rfl) ?_
 rotate_left
 ·exact sC
 ·refine sA ?_
  all_goals((simp[fJ]))
 rotate_left
 ·omega
 ·rintro i hi
  have hjl:=sF c f t i
  rcases aa (i<c.length) with h1|h1
  ·have h1':i<(fJ c f t i).length:=by omega
   have eg:=rC (f:=f) (t:=t) h1 h1'
   rcases aa (c[i]=f) with h2|h2
   ·have k2:(c[i]=f)=True:=eq_true (by omega)
    have hp:=uW (l:=fJ c f t i) (i:=i) (n:=t) h1'
    have hn:=qn (f:=f) (t:=t) h1
    rw[if_pos h2] at hn
    rw[pn h1',eg] at hp
    simp -implicitDefEqProofs only[go_sem,hjl,h1,eg,k2]
    refine sQ ?_
    refine⟨i+1,?_,sL,ar [some 0] ?_ ?_ rfl rfl⟩
    rotate_left
    ·exact sC
    ·refine sA ?_
     all_goals((rw[hp,hn]))
    exact h1
   ·have k2:¬c[i]=f:=by omega
    have hn:=tq (f:=f) (t:=t) h1 h2
    simp -implicitDefEqProofs only[go_sem,hjl,h1,eg,k2]
    refine sQ ?_
    refine⟨i+1,?_,sL,ar [some 0] ?_ ?_ rfl rfl⟩
    rotate_left
    ·exact sC
    ·refine sA ?_
     all_goals((rw[hn]))
    exact h1
  ·rw[hend i (by omega)] at hjl⊢
   simp -implicitDefEqProofs only[go_sem,hjl,h1]
   refine bZ [some 0] ?_ rfl rfl
   exact sC
theorem F3(af:List Term)(c:List Nat)(a b:Nat)(hk:gR af)(ha:a<af.length)(hb:b<af.length)(hc:c.length=af.length)(o5:af.length≤1000)(hk9:∀t∈af,t.kids.length≤1000):C E.P 244 [lv (aN af),lv (bQ c),iv a,iv b] [] (bz (bv (alike af c a b)) []):=by
 have e1:af.getD a aM=af[a]:=by rw[aA,ah ha];rfl
 have e2:af.getD b aM=af[b]:=by rw[aA,ah hb];rfl
 have ka:=hk _ (ak ha)
 have la:=hk9 _ (ak ha)
 have kb:=hk _ (ak hb)
 have e:alike af c a b=(decide (0<af[a].kids.length)&&(decide (af[a].name=af[b].name)&&ly af c af[a].kids af[b].kids)):=by rw[alike,e1,e2]
 refine gS (nt:=68) (rs:=[.tmp 8]) hm Tryz.func244 fun hl he cq=>?_
 simp -implicitDefEqProofs only[go_sem,ha,hb]
 obtain⟨x,hx⟩:∃x,af[a]=x:=⟨_,rfl⟩
 obtain⟨y,hy⟩:∃y,af[b]=y:=⟨_,rfl⟩
 rw[hx] at e ka la
 rw[hy] at e kb
 rcases aa (x.name=y.name) with h1|h1
 ·rcases aa (x.kids.length=y.kids.length) with h2|h2
  ·have k1:=eq_true h1
   rcases aa ((y.kids.length:Int)=0) with h3|h3
   ·have k3:=eq_true h3
    have h3':¬0<x.kids.length:=by omega
    simp -implicitDefEqProofs only[go_sem,hx,hy,k1,h2,k3]
    refine an ?_
    refine sA ?_
    all_goals(simp[e,h3'];done)
   ·have h3':0<x.kids.length:=by omega
    rw[decide_eq_true h3',decide_eq_true h1,aB,aB] at e
    simp -implicitDefEqProofs only[go_sem,hx,hy,k1,h2,h3]
    refine aL hm (fun(i:Nat)=> i≤y.kids.length∧alike af c a b=ly af c (x.kids.drop i) (y.kids.drop i)) (fun(i:Nat)=> ⟨dx 68 .any [(0,lv (aN af)),(1,lv (bQ c)),(9,.ptr 0 0),(10,.ptr 1 0),(11,iv i)],[some (.box (cE (cT x))),some (.box (cE (cT y)))]⟩) (fun(i:Nat)=> y.kids.length-i) (0) ?_ (ar [some 0,some 1] ?_ ?_ rfl rfl) ?_
    rotate_left
    ·exact sC
    ·exact sC
    rotate_left
    ·exact⟨bc _,e⟩
    ·rintro i ⟨hi,hg⟩
     rcases aa (i<y.kids.length) with h4|h4
     ·have h5:i<x.kids.length:=by omega
      have mx:=ka _ (ak h5)
      have my:=kb _ (ak h4)
      have px:=bA mx
      have py:=bA my
      have cx:=cd mx
      have cy:=cd my
      have px':aG af x.kids[i]<c.length:=by omega
      have py':aG af y.kids[i]<c.length:=by omega
      have ex:c[aG af x.kids[i]]=cl c (aG af x.kids[i]):=(gX px').symm
      have ey:c[aG af y.kids[i]]=cl c (aG af y.kids[i]):=(gX py').symm
      rw[DR h5 h4] at hg
      have es:Jo af c x.kids[i] y.kids[i]=decide (cl c (aG af x.kids[i])=cl c (aG af y.kids[i])):=rfl
      rw[es] at hg
      simp -implicitDefEqProofs only[go_sem,h2,h4]
      refine bw [] (cP af x.kids[i]) ?_ ?_<;>simp -implicitDefEqProofs only[go_sem,cx,px',ex,h4]
      refine bw [] (cP af y.kids[i]) ?_ ?_<;>simp -implicitDefEqProofs only[go_sem,cy,py',ey]
      refine iK ?_
      rcases aa (cl c (aG af x.kids[i])=cl c (aG af y.kids[i])) with h6|h6
      ·have k6:(cl c (aG af x.kids[i])=cl c (aG af y.kids[i]))=True:=eq_true (by omega)
       rw[decide_eq_true h6,aB] at hg
       simp -implicitDefEqProofs only[go_sem,k6]
       refine sQ ?_
       refine⟨i+1,?_,sL,ar [some 0,some 1] ?_ ?_ rfl rfl⟩
       rotate_left
       ·exact sC
       ·exact sC
       exact⟨by omega,hg⟩
      ·have k6:¬cl c (aG af x.kids[i])=cl c (aG af y.kids[i]):=by omega
       rw[decide_eq_false h6,aK] at hg
       simp -implicitDefEqProofs only[go_sem,k6]
       refine an ?_
       refine sA ?_
       all_goals(simp[hg];done)
     ·rw[ai (by omega),ai (by omega),HQ] at hg
      simp -implicitDefEqProofs only[go_sem,h2,h4]
      refine an ?_
      refine sA ?_
      all_goals(simp[hg];done)
  ·have k1:=eq_true h1
   have k2:¬x.kids.length=y.kids.length:=by omega
   have e3:alike af c a b=false:=by rw[e,zY h2];simp
   simp -implicitDefEqProofs only[go_sem,hx,hy,k1,k2]
   refine an ?_
   refine sA ?_
   all_goals(simp[e3];done)
 ·have k1:=eq_false h1
  simp -implicitDefEqProofs only[go_sem,hx,hy,k1]
  refine an ?_
  refine sA ?_
  all_goals(simp[e,h1];done)
theorem yX(af:List Term)(c:List Nat)(hk:gR af)(hc:c.length=af.length)(o5:af.length≤1000)(hk9:∀t∈af,t.kids.length≤1000):C E.P 198 [lv (aN af),lv (bQ c)] [] (bz (.gV [iv (((fD af c).getD (0,0)).1:Nat),iv (((fD af c).getD (0,0)).2:Nat),bv (fD af c).isSome]) []):=by
 refine gS (nt:=38) (rs:=[.tmp 4,.tmp 5,.tmp 6]) hm Tryz.func198 fun hl he cq=>?_
 refine aL hm (fun(l:Nat)=> l≤af.length∧fD af c=(jA l af.length).find? (fun p=>mY af c p.1 p.2)) (fun(l:Nat)=> ⟨dx 38 .any [(0,lv (aN af)),(1,lv (bQ c)),(7,iv l)],[]⟩) (fun(l:Nat)=> af.length-l) (0) ?_ (ar [] ?_ ?_ rfl rfl) ?_
 rotate_left
 ·exact sC
 ·exact sC
 rotate_left
 ·exact⟨bc _,rfl⟩
 ·rintro l ⟨hi,hg⟩
  rcases aa (l<af.length) with h1|h1
  ·rw[x8 h1] at hg
   refine uA ?_
   refine aL hm (fun(e:Nat)=> e≤l∧fD af c=(qu e l af.length).find? (fun p=>mY af c p.1 p.2)) (fun(e:Nat)=> ⟨dx 38 .any [(0,lv (aN af)),(1,lv (bQ c)),(7,iv l),(8,iv e)],[]⟩) (fun(e:Nat)=> l-e) (0) ?_ (ar [] ?_ ?_ rfl rfl) ?_
   rotate_left
   ·exact sC
   ·exact sC
   rotate_left
   ·exact⟨bc _,hg⟩
   ·rintro e ⟨he,hg⟩
    rcases aa (e<l) with h2|h2
    ·have h2':=h2
     have pe:e<c.length:=by omega
     have pl:l<c.length:=by omega
     have ee:c[e]=cl c e:=(gX pe).symm
     have el:c[l]=cl c l:=(gX pl).symm
     rw[y8 h2,List.find?_cons] at hg
     have em:mY af c e l=(decide (cl c e≠cl c l)&&alike af c e l):=rfl
     simp only[em] at hg
     rcases aa (cl c l=cl c e) with h3|h3
     ·have k3:(cl c l=cl c e)=True:=eq_true (by omega)
      rw[decide_eq_false (by omega:¬cl c e≠cl c l),aK] at hg
      simp -implicitDefEqProofs only[go_sem,h2',pe,pl,ee,el,k3]
      refine iK ?_
      refine sQ ?_
      refine⟨e+1,?_,sL,ar [] ?_ ?_ rfl rfl⟩
      rotate_left
      ·exact sC
      ·exact sC
      exact⟨by omega,hg⟩
     ·have k3:¬cl c l=cl c e:=by omega
      rw[decide_eq_true (by omega:cl c e≠cl c l),aB] at hg
      simp -implicitDefEqProofs only[go_sem,h2',pe,pl,ee,el,k3]
      refine aC [] (F3 af c e l hk (by omega) h1 hc o5 hk9) ?_
      refine iK ?_
      cases h4:alike af c e l
      ·rw[h4] at hg
       refine sA ?_
       refine sQ ?_
       refine⟨e+1,?_,sL,ar [] ?_ ?_ rfl rfl⟩
       rotate_left
       ·exact sC
       ·exact sC
       exact⟨by omega,hg⟩
      ·rw[h4] at hg
       simp only at hg
       refine sA ?_
       refine an ?_
       refine sA ?_
       rw[hg]
       ((repeat' apply au)<;>rfl)
    ·have h2':=h2
     rw[BU (by omega)] at hg
     simp -implicitDefEqProofs only[go_sem,h2']
     refine sQ ?_
     refine⟨l+1,?_,sL,ar [] ?_ ?_ rfl rfl⟩
     rotate_left
     ·exact sC
     ·exact sC
     exact⟨by omega,hg⟩
  ·rw[zq (by omega),List.find?_nil] at hg
   refine uA ?_
   refine an ?_
   refine sA ?_
   rw[hg]
   ((repeat' apply au)<;>rfl)
set_option maxHeartbeats 3200000
theorem NG(a:jy):eC [a]=[gQ a]:=by rw[ki,lu]
theorem MX(a b:jy):eC [a,b]=[gQ a,gQ b]:=by rw[ki,ki,lu]
theorem UN(w s:jy):eC [w,.mk 3 0 aM [s]]=[gQ w,[.val (.int .i64 3),.val (.int .i64 0),.str [],.dt [],.dt [gQ s]]]:=by
 have e:gQ (.mk 3 0 aM [s])=[.val (.int .i64 3),.val (.int .i64 0),.str [],.dt [],.dt (eC [s])]:=rfl
 rw[MX,e,NG]
theorem BI(af:List Term)(eqs:List fO)(hk:gR af)(kG:∀e∈eqs,e.A∈af∧e.B∈af)(o5:af.length≤1000)(hk9:∀t∈af,t.kids.length≤1000)(he9:eqs.length≤1000) :
 C E.P 127 [lv (aN af),lv (cO eqs)] [] (bz (.gV [lv (aY (closed af eqs).2),lv (bQ (closed af eqs).1)]) []):=by
 refine gS (nt:=94) (rs:=[.tmp 4,.tmp 5]) hm Tryz.func127 fun hl he cq=>?_
 refine aL hm (fun(i:Nat)=> i≤af.length) (fun(i:Nat)=> ⟨dx 94 .any [(0,lv (aN af)),(1,lv (cO eqs)),(6,.acc 0),(7,.acc 1),(8,iv i)],[some (.acc 3 (bQ (bx i))),some (.acc 220 (aY []))]⟩) (fun(i:Nat)=> af.length-i) (0) ?_ (ar [some 0,some 1] ?_ ?_ rfl rfl) ?_
 rotate_left
 ·exact sC
 ·refine sA ?_
  all_goals(rfl)
 rotate_left
 ·omega
 ·rintro i hi
  have hrl:(bx i).length=i:=List.length_range
  rcases aa (i<af.length) with h1|h1
  ·refine uA ?_
   refine sQ ?_
   refine⟨i+1,?_,sL,ar [some 2,some 1] ?_ ?_ rfl rfl⟩
   rotate_left
   ·exact sC
   ·refine sA ?_
    all_goals((rw[←lZ];rfl))
   exact h1
  ·obtain rfl:i=af.length:=by omega
   refine uA ?_
   clear hi h1
   refine kS hm (fun(n:Nat) (c:List Nat) (aj:List Step)=> n≤eqs.length∧c.length=af.length∧(∀x∈c,x≤1000)∧aj.length≤n∧given af eqs=iZ af n (eqs.drop n) c aj) (fun(n:Nat) (c:List Nat) (aj:List Step)=> ⟨dx 94 .any [(0,lv (aN af)),(1,lv (cO eqs)),(6,.acc 0),(7,.acc 1),(9,iv n)],[some (.acc 3 (bQ c)),some (.acc 220 (aY aj))]⟩) (fun(n:Nat) (c:List Nat) (aj:List Step)=> eqs.length-n) (0) (bx af.length) ([]) ?_ (ar [some 0,some 1] ?_ ?_ rfl rfl) ?_
   rotate_left
   ·exact sC
   ·exact sC
   rotate_left
   ·exact⟨bc _,hrl,fun x hx=>by have:=List.mem_range.1 hx;omega,aJ _,rfl⟩
   ·rintro n c aj ⟨hn,hc,hm9,hs,hg⟩
    rcases aa (n<eqs.length) with h1|h1
    ·obtain⟨mA,mB⟩:=kG _ (ak h1)
     have pA:=bA mA
     have pB:=bA mB
     have cA:=cd mA
     have cB:=cd mB
     have pA':aG af eqs[n].A<c.length:=by omega
     have pB':aG af eqs[n].B<c.length:=by omega
     have eA:c[aG af eqs[n].A]=cl c (aG af eqs[n].A):=(gX pA').symm
     have eB:c[aG af eqs[n].B]=cl c (aG af eqs[n].B):=(gX pB').symm
     have hj1:=fK c (aG af eqs[n].A) (aG af eqs[n].B)
     have hj2:=wV (a:=aG af eqs[n].A) (b:=aG af eqs[n].B) hm9
     have cj:=tW c (aG af eqs[n].A) (aG af eqs[n].B) pA' pB' (by omega) hm9
     rw[ae h1,iZ] at hg
     refine uA ?_
     refine bw [] (cP af eqs[n].A) ?_ ?_<;>simp -implicitDefEqProofs only[go_sem,h1]
     refine aC [] (cP af eqs[n].B) ?_
     refine sQ ?_
     rw[cA,cB]
     generalize aG af eqs[n].A=a at *
     generalize aG af eqs[n].B=b at *
     rcases aa (cl c a=cl c b) with h2|h2
     ·have k2:(cl c a=cl c b)=True:=eq_true (by omega)
      rw[if_pos h2] at hg
      simp -implicitDefEqProofs only[go_sem,pA',pB',eA,eB,k2]
      refine iK ?_
      refine sQ ?_
      refine⟨n+1,c,aj,?_,sL,ar [some 0,some 1] ?_ ?_ rfl rfl⟩
      rotate_left
      ·exact sC
      ·exact sC
      exact⟨by omega,hc,hm9,by omega,hg⟩
     ·have k2:¬cl c a=cl c b:=by omega
      rw[if_neg h2] at hg
      simp -implicitDefEqProofs only[go_sem,pA',pB',eA,eB,k2]
      refine iK ?_
      refine sQ ?_
      refine oC [] [0] cj ?_
      refine sQ ?_
      refine⟨n+1,gj c a b,aj++[⟨a,b,n⟩],?_,sL,ar [some 0,some 2] ?_ ?_ rfl rfl⟩
      rotate_left
      ·exact sC
      ·refine sA ?_
       all_goals((rw[←vi,tJ,ri];rfl))
      exact⟨by omega,by omega,hj2,by simp;omega,hg⟩
    ·rw[ai (by omega),iZ] at hg
     have hcl:closed af eqs=kh af c.sum c aj:=by rw[closed,hg]
     have hsum:=pq hm9
     have hsum2:c.length*1000≤1000*1000:=Nat.mul_le_mul_right _ (by omega)
     refine uA ?_
     refine dH [] [0] (yX af c hk hc o5 hk9) rfl ?_ ?_ ?_
     ·exact sV
     all_goals simp -implicitDefEqProofs only[go_sem]
     refine kS hm (fun(f:Nat) (c:List Nat) (aj:List Step)=> c.length=af.length∧(∀x∈c,x≤1000)∧c.sum≤f∧aj.length+f≤2000000∧closed af eqs=kh af f c aj) (fun(f:Nat) (c:List Nat) (aj:List Step)=> ⟨dx 94 .any [(0,lv (aN af)),(6,.acc 0),(7,.acc 1),(12,iv (((fD af c).getD (0,0)).1:Nat)),(13,iv (((fD af c).getD (0,0)).2:Nat)),(14,bv (fD af c).isSome)],[some (.acc 3 (bQ c)),some (.acc 220 (aY aj))]⟩) (fun(f:Nat) (c:List Nat) (aj:List Step)=> f) (c.sum) (c) (aj) ?_ (ar [some 0,some 1] ?_ ?_ rfl rfl) ?_
     rotate_left
     ·exact sC
     ·exact sC
     rotate_left
     ·exact⟨hc,hm9,aJ _,by omega,hcl⟩
     ·clear hcl hsum hsum2 hg h1 hn hc hm9 hs
      rintro f c aj ⟨hc,hm9,hf,hs,hg⟩
      cases hp:fD af c with
      | none=>
        rw[vr hp] at hg
        refine uK ?_
        refine an ?_
        refine sA ?_
        rw[hg]
        ((repeat' apply au)<;>rfl)
      | some p=>
        obtain⟨f',rfl,hg2,hf2⟩:=vW (aj:=aj) hf hc hp
        obtain⟨p1,p2,p3,p4⟩:=qb hp
        rw[hg2] at hg
        have hj1:=fK c p.1 p.2
        have hj2:=wV (a:=p.1) (b:=p.2) hm9
        have cj:=tW c p.1 p.2 (by omega) (by omega) (by omega) hm9
        have cn:=yX af (gj c p.1 p.2) hk (by omega) o5 hk9
        obtain⟨a,b⟩:=p
        simp only at hg hg2 hf2 p1 p2 hj1 hj2 cj cn
        refine uL ?_
        refine sQ ?_
        refine oC [] [0] cj ?_
        refine dH [] [0] cn rfl ?_ ?_ ?_
        ·exact sV
        all_goals simp -implicitDefEqProofs only[go_sem]
        refine⟨f',gj c a b,aj++[⟨a,b,-1⟩],?_,sL,ar [some 0,some 2] ?_ ?_ rfl rfl⟩
        rotate_left
        ·exact sC
        ·refine sA ?_
         all_goals((rw[←vi,tJ,ri];rfl))
        exact⟨by omega,hj2,hf2,by simp;omega,hg⟩
theorem ke(l:List Nat)(n:Nat):C E.P 245 [lv (bQ l),iv n] [] (bz (bv (decide (n∈l))) []):=by
 refine gS (nt:=18) (rs:=[.tmp 4]) hm Tryz.func245 fun hl he cq=>?_
 refine aL hm (fun(i:Nat)=> i≤l.length∧decide (n∈l)=decide (n∈l.drop i)) (fun(i:Nat)=> ⟨dx 18 .any [(0,lv (bQ l)),(1,iv n),(5,iv i)],[]⟩) (fun(i:Nat)=> l.length-i) (0) ?_ (ar [] ?_ ?_ rfl rfl) ?_
 rotate_left
 ·exact sC
 ·exact sC
 rotate_left
 ·simp
 ·rintro i ⟨hi,hg⟩
  rcases aa (i<l.length) with h1|h1
  ·rw[ae h1] at hg
   rcases aa (l[i]=n) with h2|h2
   ·have k2:(l[i]=n)=True:=eq_true (by omega)
    have hg:decide (n∈l)=true:=by rw[hg];simp[h2]
    simp -implicitDefEqProofs only[go_sem,h1,k2]
    refine an ?_
    refine sA ?_
    all_goals(simp[hg];done)
   ·have k2:¬l[i]=n:=by omega
    have hg:decide (n∈l)=decide (n∈l.drop (i+1)):=by
     rw[hg]
     refine decide_eq_decide.2 ⟨fun h=>?_,fun h=>List.mem_cons_of_mem _ h⟩
     rcases ay.1 h with h|h
     ·exact absurd h.symm h2
     ·exact h
    simp -implicitDefEqProofs only[go_sem,h1,k2]
    refine sQ ?_
    refine⟨i+1,?_,sL,ar [] ?_ ?_ rfl rfl⟩
    rotate_left
    ·exact sC
    ·exact sC
    exact⟨by omega,hg⟩
  ·rw[ai (by omega)] at hg
   have hg:decide (n∈l)=false:=by rw[hg];simp
   refine uA ?_
   refine an ?_
   refine sA ?_
   all_goals(simp[hg];done)
theorem Ma(aj:List Step)(N n to:Nat)(hv:∀s∈aj,0≤s.A∧s.A.toNat<N∧0≤s.B∧s.B.toNat<N)(hn:n≤aj.length)(hN:N≤1000)(hs9:aj.length≤2000000):∀(f:Nat),f≤2000→∀(v:Nat)(dR:List Nat),dR.Nodup→(∀x∈dR,x<N)→N+1≤f+dR.length →
 C E.P 199 [lv (aY aj),iv n,iv v,iv to,lv (bQ dR)] [] (bz (.gV [lv (bF (((tY aj n to f v dR).getD []).map uy)),bv (tY aj n to f v dR).isSome]) []):=by
 intro f
 induction f with
 | zero=>
   intro _ v dR h1 h2 h3
   have:=kd h1 h2
   omega
 | succ f ih=>
 intro hf9 v dR h1 h2 h3
 have dy:=kd h1 h2
 have hway:¬v=to→tY aj n to (f+1) v dR=vZ (tY aj n to f) aj v dR (dN 0 (n-0)):=fun h=>by
  rw[tY,if_neg h,List.range_eq_range']
  rfl
 have cq:=jT
 refine HA (nt:=80) (rs:=[.tmp 10,.tmp 11]) Tryz.func199 rfl rfl rfl rfl rfl (fun hl he=>?_)
 simp -implicitDefEqProofs only[go_sem] at hl⊢
 refine iI hm ?_
 rcases aa (v=to) with h0|h0
 ·have k0:(v=to)=True:=eq_true (by omega)
  have hw0:tY aj n to (f+1) v dR=some []:=by rw[tY,if_pos h0]
  simp -implicitDefEqProofs only[go_sem,k0,dW]
  refine eP ?_
  refine an ?_
  refine sA ?_
  rw[hw0]
  ((repeat' apply au)<;>rfl)
 ·have k0:¬v=to:=by omega
  refine uH ?_
  refine Sz (fun(i:Nat)=> i≤n∧tY aj n to (f+1) v dR=vZ (tY aj n to f) aj v dR (dN i (n-i))) (fun(i:Nat)=> ⟨dx 80 .any [(0,lv (aY aj)),(1,iv n),(2,iv v),(3,iv to),(4,lv (bQ dR)),(12,iv i)],[]⟩) (fun(i:Nat)=> n-i) (0) ?_ (ar [] ?_ ?_ rfl rfl) ?_
  rotate_left
  ·exact sC
  ·exact sC
  rotate_left
  ·exact⟨bc _,hway h0⟩
  ·rintro i ⟨hi,hg⟩
   rcases aa (i<n) with kG|kG
   ·have hi2:i<aj.length:=by omega
    obtain⟨a0,a1,b0,b1⟩:=hv _ (ak hi2)
    have eqA:vA aj i=aj[i].A.toNat:=by rw[vA,r6 hi2]
    have eqB:vB aj i=aj[i].B.toNat:=by rw[vB,r6 hi2]
    have eA:aj[i].A=(vA aj i:Int):=by omega
    have eB:aj[i].B=(vB aj i:Int):=by omega
    rw[SS kG] at hg
    rcases aa (vB aj i=v) with hB|hB
    ·have kB:(vB aj i=v)=True:=eq_true (by omega)
     have en:pd aj v i=some ⟨i,true⟩:=by rw[pd,if_pos hB]
     have ee:ij aj ⟨i,true⟩=vA aj i:=rfl
     rw[en] at hg
     simp only[ee] at hg
     have hw1:vA aj i<N:=by omega
     rcases aa (vA aj i=v) with hA|hA
     ·have kA:(vA aj i=v)=True:=eq_true (by omega)
      generalize hw:vA aj i=w at hg hw1 eA kA
      rw[hw] at eqA
      have hnn:¬ (w:Int)<0:=by omega
      have hsa:(∀y∈bQ dR,y.length=1)∧dR.length≤LB∧dR.length*8≤140737488355328:=⟨CN _,by omega,by omega⟩
      rcases aa (w∈dR) with h5|h5
      ·have k5:=decide_eq_true h5
       rw[if_pos h5] at hg
       refine iI hm ?_
       simp -implicitDefEqProofs only[go_sem,kG,kA,hi2,eA,eB,kB]
       refine sQ ?_
       refine bw [] (ke dR w) ?_ ?_<;>simp -implicitDefEqProofs only[go_sem,hnn]
       simp -implicitDefEqProofs only[go_sem,k5,dW]
       refine sQ ?_
       refine⟨i+1,?_,sL,ar [] ?_ ?_ rfl rfl⟩
       rotate_left
       ·exact sC
       ·exact sC
       exact⟨by omega,hg⟩
      ·have k5:=decide_eq_false h5
       rw[if_neg h5] at hg
       have hnd:(dR++[w]).Nodup:=dm.2 ⟨h1,by simp,fun x hx y hy e1=>by
        simp only[ay,ba,or_false] at hy
        rw[e1,hy] at hx
        exact h5 hx⟩
       have lL:∀x∈dR++[w],x<N:=fun x hx=>by
        rcases aP.1 hx with hx|hx
        ·exact h2 x hx
        ·simp only[ay,ba,or_false] at hx
         omega
       have hc:=ih (by omega) w (dR++[w]) hnd lL (by simp;omega)
       rw[←lZ,show bQ [w]=[[.val (.int .i64 (w:Int))]] from rfl] at hc
       cases hr:tY aj n to f w (dR++[w]) with
       | none=>
         rw[hr] at hg hc
         simp only at hg
         refine iI hm ?_
         simp -implicitDefEqProofs only[go_sem,kG,kA,hi2,eA,eB,kB]
         refine sQ ?_
         refine bw [] (ke dR w) ?_ ?_<;>simp -implicitDefEqProofs only[go_sem,hnn]
         simp -implicitDefEqProofs only[go_sem,k5]
         refine sQ ?_
         refine oC [] [2] (vt (e:=3) (args:=[lv (aY aj),iv n,iv w,iv to,.acc 0]) (iH.cons (Vw.same rfl) (iH.cons (Vw.same rfl) (iH.cons (Vw.same rfl) (iH.cons (Vw.same rfl) (iH.cons (Vw.acc rfl rfl) iH.nil))))) rfl hc) ?_
         simp -implicitDefEqProofs only[go_sem,bE,cg,dW]
         refine sQ ?_
         refine⟨i+1,?_,sL,ar [] ?_ ?_ rfl rfl⟩
         rotate_left
         ·exact sC
         ·exact sC
         exact⟨by omega,hg⟩
       | some r=>
         rw[hr] at hg hc
         simp only[aW,aX] at hg hc
         have hrl:=Cg hr
         have je:(∀y∈bF (r.map uy),y.length=1)∧1+r.length≤LB∧(1+r.length)*8≤140737488355328:=⟨pr _,by omega,by omega⟩
         refine fl (iI hm ?_)
         simp -implicitDefEqProofs only[go_sem,kG,dW,dS]
         refine fl (E0 ?_)
         refine fl (iI hm ?_)
         simp -implicitDefEqProofs only[go_sem,dW,dS]
         refine fl (iI hm ?_)
         simp -implicitDefEqProofs only[go_sem,dW,dS]
         refine fl (iI hm ?_)
         simp -implicitDefEqProofs only[go_sem,hi2,eA,eB,kA,dW,dS]
         refine fl (iI hm ?_)
         simp -implicitDefEqProofs only[go_sem,hi2,eA,eB,kB,dW,dS]
         refine sQ ?_
         refine fl (iI hm ?_)
         simp -implicitDefEqProofs only[go_sem,hnn]
         refine aC [] (ke dR w) ?_
         simp -implicitDefEqProofs only[go_sem,k5,dW,dS]
         refine fl (iI hm ?_)
         refine sA ?_
         refine sQ ?_
         refine oC [] [2] (vt (e:=3) (args:=[lv (aY aj),iv n,iv w,iv to,.acc 0]) (iH.cons (Vw.same rfl) (iH.cons (Vw.same rfl) (iH.cons (Vw.same rfl) (iH.cons (Vw.same rfl) (iH.cons (Vw.acc rfl rfl) iH.nil))))) rfl hc) ?_
         refine fl (iI hm ?_)
         simp -implicitDefEqProofs only[go_sem,dW,dS]
         refine KP (b:=true) rfl (fun _=>?_) (fun h=>by cases h)
         refine fl (oB ?_)
         refine iY rfl (fu ?_)
         refine sA ?_
         refine iY rfl (fg (pf 38 3 1 3 _ _ _ [[.val (.int .i64 (-1-(i:Int)))]] rfl rfl rfl rfl rfl (by simp -implicitDefEqProofs only[go_sem]) rfl (by decide) rfl) ?_)
         refine sA ?_
         refine iY rfl (fu ?_)
         refine sA ?_
         refine iY rfl (fu ?_)
         refine sA ?_
         refine sQ ?_
         refine iY rfl (fu ?_)
         refine sA ?_
         refine iY rfl (fu ?_)
         refine sA ?_
         refine wc ?_
         simp -implicitDefEqProofs only[go_sem,dS]
         refine R6 ?_
         simp only[C6,yo,qU]
         refine sA ?_
         refine eP ?_
         refine an ?_
         refine sA ?_
         rw[hg]
         ((repeat' apply au)<;>rfl)
     ·have kA:¬vA aj i=v:=by omega
      generalize hw:vA aj i=w at hg hw1 eA kA
      rw[hw] at eqA
      have hnn:¬ (w:Int)<0:=by omega
      have hsa:(∀y∈bQ dR,y.length=1)∧dR.length≤LB∧dR.length*8≤140737488355328:=⟨CN _,by omega,by omega⟩
      rcases aa (w∈dR) with h5|h5
      ·have k5:=decide_eq_true h5
       rw[if_pos h5] at hg
       refine iI hm ?_
       simp -implicitDefEqProofs only[go_sem,kG,kA,hi2,eA,eB,kB]
       refine sQ ?_
       refine bw [] (ke dR w) ?_ ?_<;>simp -implicitDefEqProofs only[go_sem,hnn]
       simp -implicitDefEqProofs only[go_sem,k5,dW]
       refine sQ ?_
       refine⟨i+1,?_,sL,ar [] ?_ ?_ rfl rfl⟩
       rotate_left
       ·exact sC
       ·exact sC
       exact⟨by omega,hg⟩
      ·have k5:=decide_eq_false h5
       rw[if_neg h5] at hg
       have hnd:(dR++[w]).Nodup:=dm.2 ⟨h1,by simp,fun x hx y hy e1=>by
        simp only[ay,ba,or_false] at hy
        rw[e1,hy] at hx
        exact h5 hx⟩
       have lL:∀x∈dR++[w],x<N:=fun x hx=>by
        rcases aP.1 hx with hx|hx
        ·exact h2 x hx
        ·simp only[ay,ba,or_false] at hx
         omega
       have hc:=ih (by omega) w (dR++[w]) hnd lL (by simp;omega)
       rw[←lZ,show bQ [w]=[[.val (.int .i64 (w:Int))]] from rfl] at hc
       cases hr:tY aj n to f w (dR++[w]) with
       | none=>
         rw[hr] at hg hc
         simp only at hg
         refine iI hm ?_
         simp -implicitDefEqProofs only[go_sem,kG,kA,hi2,eA,eB,kB]
         refine sQ ?_
         refine bw [] (ke dR w) ?_ ?_<;>simp -implicitDefEqProofs only[go_sem,hnn]
         simp -implicitDefEqProofs only[go_sem,k5]
         refine sQ ?_
         refine oC [] [2] (vt (e:=3) (args:=[lv (aY aj),iv n,iv w,iv to,.acc 0]) (iH.cons (Vw.same rfl) (iH.cons (Vw.same rfl) (iH.cons (Vw.same rfl) (iH.cons (Vw.same rfl) (iH.cons (Vw.acc rfl rfl) iH.nil))))) rfl hc) ?_
         simp -implicitDefEqProofs only[go_sem,bE,cg,dW]
         refine sQ ?_
         refine⟨i+1,?_,sL,ar [] ?_ ?_ rfl rfl⟩
         rotate_left
         ·exact sC
         ·exact sC
         exact⟨by omega,hg⟩
       | some r=>
         rw[hr] at hg hc
         simp only[aW,aX] at hg hc
         have hrl:=Cg hr
         have je:(∀y∈bF (r.map uy),y.length=1)∧1+r.length≤LB∧(1+r.length)*8≤140737488355328:=⟨pr _,by omega,by omega⟩
         refine fl (iI hm ?_)
         simp -implicitDefEqProofs only[go_sem,kG,dW,dS]
         refine fl (E0 ?_)
         refine fl (iI hm ?_)
         simp -implicitDefEqProofs only[go_sem,dW,dS]
         refine fl (iI hm ?_)
         simp -implicitDefEqProofs only[go_sem,dW,dS]
         refine fl (iI hm ?_)
         simp -implicitDefEqProofs only[go_sem,hi2,eA,eB,kA,dW,dS]
         refine fl (iI hm ?_)
         simp -implicitDefEqProofs only[go_sem,hi2,eA,eB,kB,dW,dS]
         refine sQ ?_
         refine fl (iI hm ?_)
         simp -implicitDefEqProofs only[go_sem,hnn]
         refine aC [] (ke dR w) ?_
         simp -implicitDefEqProofs only[go_sem,k5,dW,dS]
         refine fl (iI hm ?_)
         refine sA ?_
         refine sQ ?_
         refine oC [] [2] (vt (e:=3) (args:=[lv (aY aj),iv n,iv w,iv to,.acc 0]) (iH.cons (Vw.same rfl) (iH.cons (Vw.same rfl) (iH.cons (Vw.same rfl) (iH.cons (Vw.same rfl) (iH.cons (Vw.acc rfl rfl) iH.nil))))) rfl hc) ?_
         refine fl (iI hm ?_)
         simp -implicitDefEqProofs only[go_sem,dW,dS]
         refine KP (b:=true) rfl (fun _=>?_) (fun h=>by cases h)
         refine fl (oB ?_)
         refine iY rfl (fu ?_)
         refine sA ?_
         refine iY rfl (fg (pf 38 3 1 3 _ _ _ [[.val (.int .i64 (-1-(i:Int)))]] rfl rfl rfl rfl rfl (by simp -implicitDefEqProofs only[go_sem]) rfl (by decide) rfl) ?_)
         refine sA ?_
         refine iY rfl (fu ?_)
         refine sA ?_
         refine iY rfl (fu ?_)
         refine sA ?_
         refine sQ ?_
         refine iY rfl (fu ?_)
         refine sA ?_
         refine iY rfl (fu ?_)
         refine sA ?_
         refine wc ?_
         simp -implicitDefEqProofs only[go_sem,dS]
         refine R6 ?_
         simp only[C6,yo,qU]
         refine sA ?_
         refine eP ?_
         refine an ?_
         refine sA ?_
         rw[hg]
         ((repeat' apply au)<;>rfl)
    ·have kB:¬vB aj i=v:=by omega
     rcases aa (vA aj i=v) with hA|hA
     ·have kA:(vA aj i=v)=True:=eq_true (by omega)
      have en:pd aj v i=some ⟨i,false⟩:=by rw[pd,if_neg hB,if_pos hA]
      have ee:ij aj ⟨i,false⟩=vB aj i:=rfl
      rw[en] at hg
      simp only[ee] at hg
      have hw1:vB aj i<N:=by omega
      generalize hw:vB aj i=w at hg hw1 eB kB
      rw[hw] at eqB
      have hnn:¬ (w:Int)<0:=by omega
      have hsa:(∀y∈bQ dR,y.length=1)∧dR.length≤LB∧dR.length*8≤140737488355328:=⟨CN _,by omega,by omega⟩
      rcases aa (w∈dR) with h5|h5
      ·have k5:=decide_eq_true h5
       rw[if_pos h5] at hg
       refine iI hm ?_
       simp -implicitDefEqProofs only[go_sem,kG,kA,hi2,eA,eB,kB]
       refine bw [] (ke dR w) ?_ ?_<;>simp -implicitDefEqProofs only[go_sem,hnn]
       simp -implicitDefEqProofs only[go_sem,k5,dW]
       refine sQ ?_
       refine⟨i+1,?_,sL,ar [] ?_ ?_ rfl rfl⟩
       rotate_left
       ·exact sC
       ·exact sC
       exact⟨by omega,hg⟩
      ·have k5:=decide_eq_false h5
       rw[if_neg h5] at hg
       have hnd:(dR++[w]).Nodup:=dm.2 ⟨h1,by simp,fun x hx y hy e1=>by
        simp only[ay,ba,or_false] at hy
        rw[e1,hy] at hx
        exact h5 hx⟩
       have lL:∀x∈dR++[w],x<N:=fun x hx=>by
        rcases aP.1 hx with hx|hx
        ·exact h2 x hx
        ·simp only[ay,ba,or_false] at hx
         omega
       have hc:=ih (by omega) w (dR++[w]) hnd lL (by simp;omega)
       rw[←lZ,show bQ [w]=[[.val (.int .i64 (w:Int))]] from rfl] at hc
       cases hr:tY aj n to f w (dR++[w]) with
       | none=>
         rw[hr] at hg hc
         simp only at hg
         refine iI hm ?_
         simp -implicitDefEqProofs only[go_sem,kG,kA,hi2,eA,eB,kB]
         refine bw [] (ke dR w) ?_ ?_<;>simp -implicitDefEqProofs only[go_sem,hnn]
         simp -implicitDefEqProofs only[go_sem,k5]
         refine sQ ?_
         refine oC [] [2] (vt (e:=3) (args:=[lv (aY aj),iv n,iv w,iv to,.acc 0]) (iH.cons (Vw.same rfl) (iH.cons (Vw.same rfl) (iH.cons (Vw.same rfl) (iH.cons (Vw.same rfl) (iH.cons (Vw.acc rfl rfl) iH.nil))))) rfl hc) ?_
         simp -implicitDefEqProofs only[go_sem,bE,cg,dW]
         refine sQ ?_
         refine⟨i+1,?_,sL,ar [] ?_ ?_ rfl rfl⟩
         rotate_left
         ·exact sC
         ·exact sC
         exact⟨by omega,hg⟩
       | some r=>
         rw[hr] at hg hc
         simp only[aW,aX] at hg hc
         have hrl:=Cg hr
         have je:(∀y∈bF (r.map uy),y.length=1)∧1+r.length≤LB∧(1+r.length)*8≤140737488355328:=⟨pr _,by omega,by omega⟩
         refine fl (iI hm ?_)
         simp -implicitDefEqProofs only[go_sem,kG,dW,dS]
         refine fl (E0 ?_)
         refine fl (iI hm ?_)
         simp -implicitDefEqProofs only[go_sem,dW,dS]
         refine fl (iI hm ?_)
         simp -implicitDefEqProofs only[go_sem,dW,dS]
         refine fl (iI hm ?_)
         simp -implicitDefEqProofs only[go_sem,hi2,eA,eB,kA,dW,dS]
         refine fl (iI hm ?_)
         simp -implicitDefEqProofs only[go_sem,hi2,eA,eB,kB,dW,dS]
         refine fl (iI hm ?_)
         simp -implicitDefEqProofs only[go_sem,hnn]
         refine aC [] (ke dR w) ?_
         simp -implicitDefEqProofs only[go_sem,k5,dW,dS]
         refine fl (iI hm ?_)
         refine sA ?_
         refine sQ ?_
         refine oC [] [2] (vt (e:=3) (args:=[lv (aY aj),iv n,iv w,iv to,.acc 0]) (iH.cons (Vw.same rfl) (iH.cons (Vw.same rfl) (iH.cons (Vw.same rfl) (iH.cons (Vw.same rfl) (iH.cons (Vw.acc rfl rfl) iH.nil))))) rfl hc) ?_
         refine fl (iI hm ?_)
         simp -implicitDefEqProofs only[go_sem,dW,dS]
         refine KP (b:=true) rfl (fun _=>?_) (fun h=>by cases h)
         refine fl (oB ?_)
         refine iY rfl (fu ?_)
         refine sA ?_
         refine iY rfl (fg (pf 38 3 1 3 _ _ _ [[.val (.int .i64 ((i:Int)))]] rfl rfl rfl rfl rfl (by simp -implicitDefEqProofs only[go_sem]) rfl (by decide) rfl) ?_)
         refine sA ?_
         refine iY rfl (fu ?_)
         refine sA ?_
         refine iY rfl (fu ?_)
         refine sA ?_
         refine sQ ?_
         refine iY rfl (fu ?_)
         refine sA ?_
         refine iY rfl (fu ?_)
         refine sA ?_
         refine wc ?_
         simp -implicitDefEqProofs only[go_sem,dS]
         refine R6 ?_
         simp only[C6,yo,qU]
         refine sA ?_
         refine eP ?_
         refine an ?_
         refine sA ?_
         rw[hg]
         ((repeat' apply au)<;>rfl)
     ·have kA:¬vA aj i=v:=by omega
      have en:pd aj v i=none:=by rw[pd,if_neg hB,if_neg hA]
      rw[en] at hg
      simp only at hg
      refine iI hm ?_
      simp -implicitDefEqProofs only[go_sem,Z2,kG,hi2,eA,eB,kA,kB,dW]
      refine sQ ?_
      refine⟨i+1,?_,sL,ar [] ?_ ?_ rfl rfl⟩
      rotate_left
      ·exact sC
      ·exact sC
      exact⟨by omega,hg⟩
   ·rw[pM (by omega),vZ] at hg
    refine iI hm ?_
    simp -implicitDefEqProofs only[go_sem,kG,dW]
    refine eP ?_
    refine an ?_
    refine sA ?_
    rw[hg]
    ((repeat' apply au)<;>rfl)
section
variable(af:List Term)(eqs:List fO)(aj:List Step)
theorem Ls(eW:lz af eqs aj)(hk:gR af)(o5:af.length≤1000)(hk9:∀t∈af,t.kids.length≤1000)(f:Nat)
 (ih:∀n a b,n<f→n≤aj.length→a<af.length→b<af.length→cl (aR af.length aj n) a=cl (aR af.length aj n) b→C E.P 129 [lv (aN af),lv (aY aj),iv n,iv a,iv b] [] (bz (av (gQ (lk af aj f n a b))) []))
 (i:Nat) (hi:i<aj.length) (hf:i<f):C E.P 200 [lv (aN af),lv (aY aj),iv i] [] (bz (av (gQ (vU af aj (lk af aj f) i))) []):=by
 have hs:=r6 hi
 have hso:=oL eW hi
 have a0:=hso.a0
 have b0:=hso.b0
 have a1:=Hc eW hi
 have b1:=F0 eW hi
 have eA:aj[i].A=(vA aj i:Int):=by rw[vA,hs];rw[hs] at a0;omega
 have eB:aj[i].B=(vB aj i:Int):=by rw[vB,hs];rw[hs] at b0;omega
 have XW:=hso.XW
 have hE:vU af aj (lk af aj f) i=if aj[i].given<0 then .mk 5 0 (.mk (af.getD (vA aj i) aM).name []) (((af.getD (vA aj i) aM).kids.zip (af.getD (vB aj i) aM).kids).map fun p=>lk af aj f i (aG af p.1) (aG af p.2)) else .mk 2 aj[i].given aM []:=by rw[vU,hs]
 rw[hs] at XW
 refine gS (nt:=74) (rs:=[.cell 6 37]) hm Tryz.func200 fun hl he cq=>?_
 rcases aa (0≤aj[i].given) with h0|h0
 ·rw[if_neg (by omega)] at hE
  simp -implicitDefEqProofs only[go_sem,hi,h0]
  refine an ?_
  refine sA ?_
  rw[hE]
  ((repeat' apply au)<;>rfl)
 ·rw[if_pos (by omega)] at hE
  have hal:alike af (aR af.length aj i) (vA aj i) (vB aj i)=true:=by
   rcases XW with h|⟨n,h,_⟩
   ·rw[vA,vB,hs];exact h.2
   ·omega
  obtain⟨q1,q2,q3,q4⟩:=Om hal
  have gA:af.getD (vA aj i) aM=af[vA aj i]:=by rw[aA,ah a1];rfl
  have gB:af.getD (vB aj i) aM=af[vB aj i]:=by rw[aA,ah b1];rfl
  have mA:=ak a1
  have mB:=ak b1
  obtain⟨x,hx⟩:∃x,af[vA aj i]=x:=⟨_,rfl⟩
  obtain⟨y,hy⟩:∃y,af[vB aj i]=y:=⟨_,rfl⟩
  rw[hx] at gA mA
  rw[hy] at gB mB
  rw[gA] at q1 q2 q3 q4 hE
  rw[gB] at q2 q3 q4 hE
  have kx:=hk _ mA
  have ky:=hk _ mB
  have kl:=hk9 _ mA
  simp -implicitDefEqProofs only[go_sem,hi,h0,eA,eB,a1,b1,hx,hy]
  refine aL hm (fun(k:Nat)=> k≤x.kids.length) (fun(k:Nat)=> ⟨dx 74 .any [(0,lv (aN af)),(1,lv (aY aj)),(2,iv i),(6,.ptr 0 0),(7,.ptr 1 0),(8,.ptr 2 0),(9,.ptr 3 0),(10,iv k)],[some (.box (cE (gQ sU))),some (.box (cE (cT x))),some (.box (cE (cT y))),some (.box [iv 5,iv 0,sv x.name,lv [],.acc 4]),some (.acc 37 (eC (((x.kids.zip y.kids).take k).map fun p=>lk af aj f i (aG af p.1) (aG af p.2))))]⟩) (fun(k:Nat)=> x.kids.length-k) (0) ?_ (ar [some 0,some 1,some 2,some 3,none] ?_ ?_ rfl rfl) ?_
  rotate_left
  ·exact sC
  ·exact sC
  rotate_left
  ·omega
  ·rintro k hk1
   rcases aa (k<x.kids.length) with h1|h1
   ·have h2:k<y.kids.length:=by omega
    have mx:=kx _ (ak h1)
    have my:=ky _ (ak h2)
    have px:=bA mx
    have py:=bA my
    have cx:=cd mx
    have cy:=cd my
    have hc:=ih i (aG af x.kids[k]) (aG af y.kids[k]) hf (by omega) px py (q4 k h1 h2)
    have hz:=Mx (f:=fun p=>lk af aj f i (aG af p.1) (aG af p.2)) h1 h2
    have hzl:(((x.kids.zip y.kids).take k).map fun p=>lk af aj f i (aG af p.1) (aG af p.2)).length≤1000:=by simp;omega
    refine uA ?_
    refine bw [] (cP af x.kids[k]) ?_ ?_<;>simp -implicitDefEqProofs only[go_sem,cx,h2]
    refine bw [] (cP af y.kids[k]) ?_ ?_<;>simp -implicitDefEqProofs only[go_sem,cy]
    refine aC [] hc ?_
    refine sQ ?_
    refine⟨k+1,?_,sL,ar [some 0,some 1,some 2,some 3,some 5] ?_ ?_ rfl rfl⟩
    rotate_left
    ·exact sC
    ·refine sA ?_
     all_goals((rw[hz,←DU,ki,lu];rfl))
    exact h1
   ·have et:(x.kids.zip y.kids).take k=x.kids.zip y.kids:=List.take_of_length_le (by simp;omega)
    refine uA ?_
    refine an ?_
    refine sA ?_
    rw[hE,et]
    ((repeat' apply au)<;>rfl)
theorem K6(eW:lz af eqs aj)(hk:gR af)(o5:af.length≤1000)(hk9:∀t∈af,t.kids.length≤1000)(hs9:aj.length≤2000000):∀(f n a b:Nat),n<f→n≤aj.length→a<af.length→b<af.length→cl (aR af.length aj n) a=cl (aR af.length aj n) b →
 C E.P 129 [lv (aN af),lv (aY aj),iv n,iv a,iv b] [] (bz (av (gQ (lk af aj f n a b))) []):=by
 intro f
 induction f with
 | zero=>intro n a b h;omega
 | succ f ih=>
 intro n a b hnf hn ha hb hab
 have hv:∀s∈aj,0≤s.A∧s.A.toNat<af.length∧0≤s.B∧s.B.toNat<af.length:=fun s hs=>by
  obtain⟨i,hi,rfl⟩:=List.mem_iff_getElem.1 hs
  have:=eW i _ (ah hi)
  exact⟨this.a0,this.a1,this.b0,this.b1⟩
 have hway:=Yw eW hn ha hb hab
 obtain⟨w1,w2,w3⟩:=rD eW hn ha hb hab
 have cw:=Ma aj af.length n b hv hn o5 hs9 af.length (by omega) a [a] (by simp) (fun x hx=>by simp at hx;omega) (by simp)
 rw[hway] at cw
 have ga:af.getD a aM=af[a]:=by rw[aA,ah ha];rfl
 obtain⟨way,hw⟩:∃w,lR af.length aj n a b=w:=⟨_,rfl⟩
 have hF:=RC af aj f n a b
 rw[hw] at hF
 have hwl:way.length≤af.length:=by
  rw[hw] at w3 w2 w1
  have h1:=kd w3 (fun v hv=>by
   simp only[gL,ay,List.mem_map] at hv
   rcases hv with rfl|⟨e,he,rfl⟩
   ·exact ha
   ·exact yp eW (by have:=w1 e he;omega))
  simp[gL] at h1
  omega
 rw[hw] at cw w1
 rw[show bQ [a]=[[.val (.int .i64 (a:Int))]] from rfl] at cw
 simp only[aX,aW] at cw
 have hll:(way.map uy).length=way.length:=by simp
 refine gS (nt:=69) (rs:=[.cell 10 37]) hm Tryz.func129 fun hl he cq=>?_
 refine aC [] cw ?_
 rcases Nat.eq_zero_or_pos way.length with hz|hz
 ·obtain rfl:=List.length_eq_zero_iff.1 hz
  rw[R5] at hF
  simp -implicitDefEqProofs only[go_sem,ha]
  refine aC [] (gJ af[a]) ?_
  refine an ?_
  refine sA ?_
  rw[hF,ga]
  ((repeat' apply au)<;>rfl)
 ·have jJ:¬ (way.length:Int)=0:=by omega
  have hz':(0:Int)<(way.length:Int):=by omega
  simp -implicitDefEqProofs only[go_sem,jJ]
  refine cM hm (fun(i:Nat) (w:jy)=> i≤way.length∧((i=0∧w=sU)∨(1≤i∧lk af aj (f+1) n a b=oV (kJ af aj (lk af aj f)) w (way.drop i)))) (fun(i:Nat) (w:jy)=> ⟨dx 69 .any [(0,lv (aN af)),(1,lv (aY aj)),(10,.ptr 0 0),(11,lv (bF (way.map uy))),(13,.ptr 1 0),(14,iv i)],[some (.box (cE (gQ sU))),some (.box (cE (gQ w)))]⟩) (fun(i:Nat) (w:jy)=> way.length-i) (0) (sU) ?_ (ar [some 0,some 1] ?_ ?_ rfl rfl) ?_
  rotate_left
  ·exact sC
  ·exact sC
  rotate_left
  ·exact⟨bc _,.inl ⟨rfl,rfl⟩⟩
  ·rintro i w ⟨hi,hg⟩
   rcases aa (i<way.length) with h1|h1
   ·have h1':i<(way.map uy).length:=by omega
    have jw:=w1 _ (ak h1)
    have eg:(way.map uy)[i]=uy way[i]:=by simp
    have hco:=Ls af eqs aj eW hk o5 hk9 f ih way[i].step (by omega) (by omega)
    have hed:=HK af aj (lk af aj f) way[i]
    have hd0:=ae h1
    cases hb2:way[i].back
    ·have es1:uy way[i]=(way[i].step:Int):=by rw[uy,hb2];rfl
     have hnn:¬ (way[i].step:Int)<0:=by omega
     rw[hb2,if_neg (by simp)] at hed
     rcases hg with⟨rfl,rfl⟩|⟨hi1,hg⟩
     ·simp -implicitDefEqProofs only[go_sem,hll,h1,eg,es1,hnn,hz']
      refine aC [] hco ?_
      refine sQ ?_
      refine⟨1,kJ af aj (lk af aj f) way[0],?_,sL,ar [some 0,some 1] ?_ ?_ rfl rfl⟩
      rotate_left
      ·refine sA ?_
       all_goals(simp[*];done)
      ·refine sA ?_
       all_goals((rw[hed];(repeat' apply au)<;>rfl))
      refine⟨by omega,.inr ⟨aJ _,?_⟩⟩
      rw[hF,xe hz]
     ·have k0:¬ (i:Int)=0:=by omega
      rw[hd0,oV] at hg
      simp -implicitDefEqProofs only[go_sem,hll,h1,eg,es1,hnn]
      refine aC [] hco ?_
      refine uH ?_
      refine sQ ?_
      refine⟨i+1,.mk 4 0 aM [w,kJ af aj (lk af aj f) way[i]],?_,sL,ar [some 0,some 1] ?_ ?_ rfl rfl⟩
      rotate_left
      ·exact sC
      ·refine sA ?_
       all_goals((rw[hed];exact⟨rfl,rfl,rfl,rfl,(MX _ _).symm⟩))
      exact⟨by omega,.inr ⟨by omega,hg⟩⟩
    ·have es1:uy way[i] = -1-(way[i].step:Int):=by rw[uy,hb2];rfl
     have hnn:-1-(way[i].step:Int)<0:=by omega
     have hmm:-1-(-1-(way[i].step:Int))=(way[i].step:Int):=by omega
     rw[hb2,if_pos rfl] at hed
     rcases hg with⟨rfl,rfl⟩|⟨hi1,hg⟩
     ·simp -implicitDefEqProofs only[go_sem,hll,h1,eg,es1,hnn,hz']
      refine sQ ?_
      simp -implicitDefEqProofs only[go_sem,hmm]
      refine aC [] hco ?_
      refine sQ ?_
      refine⟨1,kJ af aj (lk af aj f) way[0],?_,sL,ar [some 0,some 1] ?_ ?_ rfl rfl⟩
      rotate_left
      ·refine sA ?_
       all_goals(simp[*];done)
      ·refine sA ?_
       all_goals((rw[hed];exact⟨rfl,rfl,rfl,rfl,(NG _).symm⟩))
      refine⟨by omega,.inr ⟨aJ _,?_⟩⟩
      rw[hF,xe hz]
     ·have k0:¬ (i:Int)=0:=by omega
      rw[hd0,oV] at hg
      simp -implicitDefEqProofs only[go_sem,hll,h1,eg,es1,hnn]
      refine sQ ?_
      simp -implicitDefEqProofs only[go_sem,hmm]
      refine aC [] hco ?_
      refine uH ?_
      refine sQ ?_
      refine⟨i+1,.mk 4 0 aM [w,kJ af aj (lk af aj f) way[i]],?_,sL,ar [some 0,some 1] ?_ ?_ rfl rfl⟩
      rotate_left
      ·exact sC
      ·refine sA ?_
       all_goals((rw[hed];exact⟨rfl,rfl,rfl,rfl,(UN _ _).symm⟩))
      exact⟨by omega,.inr ⟨by omega,hg⟩⟩
   ·rcases hg with⟨rfl,_⟩|⟨hi1,hg⟩
    ·omega
    ·rw[ai (by omega),oV] at hg
     simp -implicitDefEqProofs only[go_sem,hll,h1]
     refine an ?_
     refine sA ?_
     rw[hg]
     ((repeat' apply au)<;>rfl)
end
end Go.Proofs.YtabembjmeobhoaaGreat
