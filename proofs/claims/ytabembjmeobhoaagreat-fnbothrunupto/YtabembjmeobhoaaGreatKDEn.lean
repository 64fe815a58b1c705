/-
  Plain laws: an explanation that is found derives its equation. No program is walked here.
-/
import Derived.Test.YtabembjmeobhoaaGreatKDEm
set_option linter.unusedVariables false
set_option linter.unusedSimpArgs false
open Bool renaming and_eq_true→al
open Classical renaming em→aa
open List renaming getElem_mem→ak,mem_cons→ay,map_cons→aQ,length_cons→a6,mem_map→bG,getElem?_eq_some_iff→bH,nodup_cons→cI,all_eq_true→c5,mem_singleton→fb
open Nat renaming le_refl→aJ,lt_or_ge→b6
namespace Go.Mod
open Go.Eng
set_option maxRecDepth 100000
mutual
theorem Jd{f:Int→Int→Term→List fO→fO×Bool}:∀(w:jy)(d:Nat),(b7 f w d).2=true→b7 f w (d+1)=b7 f w d
 | .mk r n t ks,0,h=>by rw[b7] at h;cases h
 | .mk r n t ks,d+1,h=>by
   rw[b7] at h
   rw[b7,b7]
   cases hk:c7 f ks d with
   | none=>rw[hk] at h;cases h
   | some es=>rw[FQ ks d es hk]
theorem FQ{f:Int→Int→Term→List fO→fO×Bool}:∀(ws:List jy)(d:Nat)(es:List fO),c7 f ws d=some es→c7 f ws (d+1)=some es
 | [],d,es,h=>by
   rw[c7] at h⊢
   exact h
 | w::ws,d,es,h=>by
   rw[c7] at h⊢
   split at h
   ·rename_i h1
    rw[Jd w d h1,if_pos h1]
    cases hr:c7 f ws d with
    | none=>rw[hr] at h;cases h
    | some r=>
      rw[hr] at h
      rw[FQ ws d r hr]
      exact h
   ·cases h
end
def jv(eqs:List fO)(w:jy)(d:Nat)(a b:Term):Prop:=b7 (bR eqs) w d=(⟨a,b⟩,true)
theorem jv.up{eqs:List fO}{w:jy}{a b:Term}:∀{d d':Nat},d≤d'→jv eqs w d a b→jv eqs w d' a b
 | d,0,h,hw=>by
   obtain rfl:d=0:=by omega
   exact hw
 | d,d'+1,h,hw=>by
   rcases b6 d (d'+1) with h1|h1
   ·have:=jv.up (d':=d') (by omega) hw
    unfold jv at this⊢
    rw[Jd w d' (by rw[this]),this]
   ·obtain rfl:d=d'+1:=by omega
    exact hw
section
variable{eqs:List fO}
theorem PN{t:Term}(h:isTerm t=true):jv eqs (.mk 1 0 t []) 1 t t:=by
 unfold jv
 rw[b7,c7]
 simp[bR,h]
theorem NJ{n:Nat}{e:fO}(h:eqs[n]?=some e):jv eqs (.mk 2 n aM []) 1 e.A e.B:=by
 obtain⟨hn,rfl⟩:=bH.1 h
 unfold jv
 rw[b7,c7]
 have hw:within (n:Int) 0 ((eqs.length:Int)-1)=true:=by simp[within];omega
 have h0:isNone aM=true:=rfl
 simp[bR,hw,h0,List.getD,hn]
theorem St{w:jy}{d:Nat}{a b:Term}(h:jv eqs w d a b):jv eqs (.mk 3 0 aM [w]) (d+1) b a:=by
 unfold jv at h⊢
 rw[b7,c7,h,c7]
 have h0:isNone aM=true:=rfl
 simp[bR,h0]
theorem MD{v w:jy}{d:Nat}{a b c:Term}(h1:jv eqs v d a b)(h2:jv eqs w d b c):jv eqs (.mk 4 0 aM [v,w]) (d+1) a c:=by
 unfold jv at h1 h2⊢
 rw[b7,c7,h1,c7,h2,c7]
 have h0:isNone aM=true:=rfl
 simp[bR,h0]
theorem GC{d:Nat}:∀{ws:List jy}{xs ys:List Term},ws.length=xs.length→xs.length=ys.length→(∀(j:Nat)(h1:j<ws.length)(h2:j<xs.length)(h3:j<ys.length),jv eqs ws[j] d xs[j] ys[j])→∃es,c7 (bR eqs) ws d=some es∧es.length=ws.length∧es.map (·.A)=xs∧es.map (·.B)=ys
 | [],[],[],_,_,_=>⟨[],by rw[c7],rfl,rfl,rfl⟩
 | [],_::_,_,h,_,_=>by simp at h
 | [],[],_::_,_,h,_=>by simp at h
 | _::_,[],_,h,_,_=>by simp at h
 | _::_,_::_,[],_,h,_=>by simp at h
 | w::ws,x::xs,y::ys,h1,h2,hw=>by
   obtain⟨es,e1,e2,e3,e4⟩:=GC (ws:=ws) (xs:=xs) (ys:=ys) (by simpa using h1) (by simpa using h2) (fun j a b c=>by
    have:=hw (j+1) (by simpa using a) (by simpa using b) (by simpa using c)
    simp only[List.getElem_cons_succ] at this
    exact this)
   have h0:=hw 0 (by simp) (by simp) (by simp)
   unfold jv at h0
   simp only[List.getElem_cons_zero] at h0
   refine⟨⟨x,y⟩::es,?_,by simp[e2],by simp[e3],by simp[e4]⟩
   rw[c7,h0,e1]
   rfl
theorem QS{name:nz}{ws:List jy}{xs ys:List Term}{d:Nat}(hn:fC name=true)(h0:0<ws.length)(h1:ws.length=xs.length)(h2:xs.length=ys.length)(hx:isTerm (.mk name xs)=true)(hy:isTerm (.mk name ys)=true)
 (hw:∀(j:Nat)(h1:j<ws.length)(h2:j<xs.length)(h3:j<ys.length),jv eqs ws[j] d xs[j] ys[j]):jv eqs (.mk 5 0 (.mk name []) ws) (d+1) (.mk name xs) (.mk name ys):=by
 obtain⟨es,e1,e2,e3,e4⟩:=GC h1 h2 hw
 unfold jv
 rw[b7,e1]
 have hl:¬es.length=0:=by omega
 have hl':es≠[]:=fun e=>hl (by rw[e];rfl)
 simp[bR,Term.name,Term.kids,hn,hl',e3,e4,hx,hy]
theorem BN{one:Edge→jy}{aj:List Step}{P:Nat→Term}{d:Nat}{x:Term}:∀(es:List Edge)(w:jy)(d':Nat)(v b:Nat),d≤d'→jv eqs w d' x (P v)→pD aj v es b→(∀e∈es,jv eqs (one e) d (P (gF aj e)) (P (ij aj e)))→jv eqs (oV one w es) (d'+es.length) x (P b)
 | [],w,d',v,b,_,hw,hp,_=>by
   rw[pD] at hp
   rw[oV,←hp]
   exact hw
 | e::es,w,d',v,b,hd,hw,hp,ho=>by
   rw[pD] at hp
   rw[oV]
   have h1:=MD hw ((hp.1▸ho e (by simp)).up hd)
   have:=BN es _ (d'+1) (ij aj e) b (by omega) h1 hp.2 fun y hy=>ho y (by simp[hy])
   rw[a6,show d'+(es.length+1)=d'+1+es.length by omega]
   exact this
end
section
variable{af:List Term}{eqs:List fO}{aj:List Step}(eW:lz af eqs aj)
include eW
theorem F4{k:Nat}(hk:k≤aj.length){a b:Nat}(ha:a<af.length)(hb:b<af.length)(h:cl (aR af.length aj k) a=cl (aR af.length aj k) b) :
 ∀e∈lR af.length aj k a b,e.step<k∧cl (aR af.length aj k) (gF aj e)=cl (aR af.length aj k) a∧cl (aR af.length aj k) (ij aj e)=cl (aR af.length aj k) a:=by
 obtain⟨h1,h2,h3⟩:=rD eW hk ha hb h
 intro e he
 have hv:=pG eW hk h1 h2 (ij aj e) (by unfold gL;exact List.mem_cons_of_mem _ (bG.2 ⟨e,he,rfl⟩))
 have hs:=CG eW hk (h1 e he)
 exact⟨h1 e he,by rw[hs,hv],hv⟩
theorem yd:∀{k:Nat},k≤aj.length→∀{a b:Nat},a<af.length→b<af.length→cl (aR af.length aj k) a=cl (aR af.length aj k) b→((lR af.length aj k a b).map Edge.step).Nodup
 | 0,_,a,b,_,_,_=>by simp[lR]
 | k+1,hk,a,b,ha,hb,h=>by
   have hk':k≤aj.length:=by omega
   rw[Pq (by omega) ha hb] at h
   have hA:=Hc eW (k:=k) (by omega)
   have hB:=F0 eW (k:=k) (by omega)
   have jJ:=(oL eW (k:=k) (by omega)).ne
   have disj:∀{x y u v:Nat},x<af.length→y<af.length→u<af.length→v<af.length→cl (aR af.length aj k) x=cl (aR af.length aj k) y→cl (aR af.length aj k) u=cl (aR af.length aj k) v→cl (aR af.length aj k) x≠cl (aR af.length aj k) u→∀bk,((lR af.length aj k x y++⟨k,bk⟩::lR af.length aj k u v).map Edge.step).Nodup:=by
    intro x y u v hx hy hu hv h1 h2 h3 bk
    have p1:=F4 eW hk' hx hy h1
    have p2:=F4 eW hk' hu hv h2
    rw[List.map_append,aQ,List.nodup_append]
    refine⟨yd hk' hx hy h1,cI.2 ⟨fun hm=>?_,yd hk' hu hv h2⟩,fun s hs t ht e=>?_⟩
    ·obtain⟨e,he,e1⟩:=bG.1 hm
     have e1':e.step=k:=e1
     have:=(p2 e he).1
     omega
    ·subst e
     obtain⟨e1,he1,q1⟩:=bG.1 hs
     rcases ay.1 ht with ht|ht
     ·have ht':s=k:=ht
      have:=(p1 e1 he1).1
      omega
     ·obtain⟨e2,he2,q2⟩:=bG.1 ht
      obtain⟨_,a1,a2⟩:=p1 e1 he1
      obtain⟨_,b1,b2⟩:=p2 e2 he2
      have jw:e1.step=e2.step:=by rw[q1,q2]
      refine h3 ?_
      rw[←a1,←b1]
      have es:gF aj e1=gF aj e2∨gF aj e1=ij aj e2:=by
       unfold gF ij
       rw[jw]
       cases e1.back<;>cases e2.back<;>simp
      rcases es with es|es
      ·rw[es]
      ·rw[es,b2,b1]
   rw[lR]
   rcases aa (cl (aR af.length aj k) a=cl (aR af.length aj k) b) with h1|h1
   ·rw[if_pos h1]
    exact yd hk' ha hb h1
   ·rw[if_neg h1]
    rcases h with h|⟨h,h'⟩|⟨h,h'⟩
    ·exact(h1 h).elim
    ·rw[if_pos (show _=cl _ (ib aj k).A.toNat from h)]
     exact disj ha hA hB hb h h'.symm (by rw[h];exact jJ) false
    ·rw[if_neg (show ¬_=cl _ (ib aj k).A.toNat from fun x=>jJ (by rw[←x];exact h))]
     exact disj ha hB hA hb h h'.symm (by rw[h];exact jJ.symm) true
theorem W9{k:Nat}(hk:k≤aj.length){a b:Nat}(ha:a<af.length)(hb:b<af.length)(h:cl (aR af.length aj k) a=cl (aR af.length aj k) b):(lR af.length aj k a b).length≤k:=by
 have h1:=yd eW hk ha hb h
 have h2:=kd (N:=k) h1 fun v hv=>by
  obtain⟨e,he,rfl⟩:=bG.1 hv
  exact(F4 eW hk ha hb h e he).1
 simpa using h2
end
def oz:Nat→Nat
 | 0=>1
 | k+1=>oz k+2+k
theorem xG:∀{j k:Nat},j≤k→oz j≤oz k
 | j,0,h=>by
   obtain rfl:j=0:=by omega
   exact aJ _
 | j,k+1,h=>by
   rcases b6 j (k+1) with h1|h1
   ·have:=xG (j:=j) (k:=k) (by omega)
    rw[oz];omega
   ·obtain rfl:j=k+1:=by omega
    exact aJ _
theorem SL:oz 24≤400:=by decide
theorem HI:∀k,1≤oz k
 | 0=>aJ _
 | k+1=>by
   have:=HI k
   rw[oz];omega
theorem S7{af:List Term}{c:List Nat}{a b:Nat}(h:alike af c a b=true):0<(af.getD a aM).kids.length∧(af.getD a aM).name=(af.getD b aM).name∧ly af c (af.getD a aM).kids (af.getD b aM).kids=true:=by
 simp only[alike,al,decide_eq_true_eq] at h
 exact h
theorem yK{af:List Term}{t:Term}(h:t∈af):af.getD (aG af t) aM=t:=by
 rw[getD_at (bA h)]
 exact(bH.1 (jt h)).2
section
variable{af:List Term}{eqs:List fO}{aj:List Step}(eW:lz af eqs aj)(WZ:gR af)(htm:∀t∈af,isTerm t=true)(kG:∀e∈eqs,e.A∈af∧e.B∈af)
include eW WZ htm kG
theorem HG:∀(f n a b:Nat),n<f→n≤aj.length→a<af.length→b<af.length→cl (aR af.length aj n) a=cl (aR af.length aj n) b→jv eqs (lk af aj f n a b) (oz n) (af.getD a aM) (af.getD b aM)
 | 0,n,_,_,h,_,_,_,_=>by omega
 | f+1,n,a,b,hf,hn,ha,hb,hc=>by
   have hPt:∀i,i<af.length→isTerm (af.getD i aM)=true:=fun i hi=>by rw[getD_at hi];exact htm _ (ak hi)
   have hPm:∀i,i<af.length→af.getD i aM∈af:=fun i hi=>by rw[getD_at hi];exact ak hi
   obtain⟨w1,w2,w3⟩:=rD eW hn ha hb hc
   have dy:=W9 eW hn ha hb hc
   have hedge:∀e,e.step<n→∃n',n=n'+1∧jv eqs (kJ af aj (lk af aj f) e) (oz n'+2) (af.getD (gF aj e) aM) (af.getD (ij aj e) aM):=fun e he=>by
    obtain⟨n',rfl⟩:∃n',n=n'+1:=⟨n-1,by omega⟩
    refine⟨n',rfl,?_⟩
    have hs:=oL eW (k:=e.step) (by omega)
    have base:jv eqs (if(ib aj e.step).given<0 then .mk 5 0 (.mk (af.getD (ib aj e.step).A.toNat aM).name []) (((af.getD (ib aj e.step).A.toNat aM).kids.zip (af.getD (ib aj e.step).B.toNat aM).kids).map fun p=>lk af aj f e.step (aG af p.1) (aG af p.2)) else .mk 2 (ib aj e.step).given aM []) (oz n'+1) (af.getD (ib aj e.step).A.toNat aM) (af.getD (ib aj e.step).B.toNat aM):=by
     rcases hs.XW with⟨h1,h2⟩|⟨m,h1,q,h2,h3,h4⟩
     ·rw[if_pos (by omega)]
      obtain⟨k0,k1,k2⟩:=S7 h2
      obtain⟨k3,k4⟩:=Dc k2
      have tA:=hPt _ hs.a1
      have tB:=hPt _ hs.b1
      have mA:=WZ _ (hPm _ hs.a1)
      have mB:=WZ _ (hPm _ hs.b1)
      generalize af.getD (ib aj e.step).A.toNat aM=tA0 at *
      generalize af.getD (ib aj e.step).B.toNat aM=tB0 at *
      obtain⟨nA,kA⟩:=tA0
      obtain⟨nB,kB⟩:=tB0
      have k1:nA=nB:=k1
      subst k1
      have k0:0<kA.length:=k0
      have k3:kA.length=kB.length:=k3
      have mA:∀k∈kA,k∈af:=mA
      have mB:∀k∈kB,k∈af:=mB
      show jv eqs (.mk 5 0 (.mk nA []) ((kA.zip kB).map fun p=>lk af aj f e.step (aG af p.1) (aG af p.2))) (oz n'+1) (.mk nA kA) (.mk nA kB)
      refine QS (MC tA) (by simp;omega) (by simp;omega) k3 tA tB fun j j1 j2 j3=>?_
      simp only[List.getElem_map,List.getElem_zip]
      have xA:=mA _ (ak j2)
      have xB:=mB _ (ak j3)
      have:=HG f e.step (aG af kA[j]) (aG af kB[j]) (by omega) (by omega) (bA xA) (bA xB) (k4 j j2 j3)
      rw[yK xA,yK xB] at this
      exact this.up (xG (by omega))
     ·rw[if_neg (by omega),h1,h3,h4]
      simp only[Int.toNat_natCast]
      have hq:=kG q (List.mem_of_getElem? h2)
      rw[yK hq.1,yK hq.2]
      exact(NJ h2).up (by omega)
    unfold kJ gF ij vA vB
    simp only
    cases e.back with
    | true=>exact St base
    | false=>exact base.up (by omega)
   rw[lk]
   cases hw:lR af.length aj n a b with
   | nil=>
     rw[hw,pD] at w2
     rw[←w2]
     exact(PN (hPt a ha)).up (HI n)
   | cons e es=>
     rw[hw] at w1 w2 dy
     rw[pD] at w2
     obtain⟨n',hn',h1⟩:=hedge e (w1 e (by simp))
     subst hn'
     rw[w2.1] at h1
     have mR:∀x∈es,jv eqs (kJ af aj (lk af aj f) x) (oz n'+2) (af.getD (gF aj x) aM) (af.getD (ij aj x) aM):=fun x hx=>by
      obtain⟨n2,e2,h2⟩:=hedge x (w1 x (by simp[hx]))
      obtain rfl:n2=n':=by omega
      exact h2
     have:=BN (P:=fun i=>af.getD i aM) es _ (oz n'+2) (ij aj e) b (aJ _) h1 w2.2 mR
     simp only[a6] at dy
     refine this.up ?_
     rw[oz]
     omega
end
end Go.Mod
namespace Go.Mod
open Go.Eng
set_option maxRecDepth 100000
def QY(n:Nat)(c:List Nat):Prop:=c.length=n∧∀i,i<n→cl c i<n∧cl c (cl c i)=cl c i
def GJ(c:List Nat):List Nat:=(List.range c.length).filter fun i=>decide (cl c i=i)
theorem wP{c:List Nat}{i:Nat}:i∈GJ c↔i<c.length∧cl c i=i:=by simp[GJ]
theorem FW(c:List Nat):(GJ c).Nodup:=List.nodup_range.filter _
theorem Nn{n:Nat}{c:List Nat}{a b:Nat}(h:QY n c)(ha:a<n)(hb:b<n)(jJ:cl c a≠cl c b):QY n (gj c a b)∧(GJ (gj c a b)).length+1≤(GJ c).length:=by
 obtain⟨hl,hr⟩:=h
 have hA:=hr a ha
 have hB:=hr b hb
 obtain⟨mx,hmx⟩:∃mx,max (cl c a) (cl c b)=mx:=⟨_,rfl⟩
 obtain⟨mn,hmn⟩:∃mn,min (cl c a) (cl c b)=mn:=⟨_,rfl⟩
 have hmxn:mx<n∧cl c mx=mx∧mn<n∧cl c mn=mn∧mn≠mx:=by
  rcases b6 (cl c a) (cl c b) with h1|h1
  ·have e1:mx=cl c b:=by omega
   have e2:mn=cl c a:=by omega
   rw[e1,e2]
   exact⟨hB.1,hB.2,hA.1,hA.2,jJ⟩
  ·have e1:mx=cl c a:=by omega
   have e2:mn=cl c b:=by omega
   rw[e1,e2]
   exact⟨hA.1,hA.2,hB.1,hB.2,fun e=>jJ e.symm⟩
 obtain⟨x1,x2,x3,x4,x5⟩:=hmxn
 have hj:∀i,i<n→cl (gj c a b) i=if cl c i=mx then mn else cl c i:=fun i hi=>by
  rw[xq (by omega),hmx,hmn]
 refine⟨⟨by rw[fK,hl],fun i hi=>?_⟩,?_⟩
 ·rw[hj i hi]
  obtain⟨r1,r2⟩:=hr i hi
  split
  ·exact⟨x3,by rw[hj mn x3,x4,if_neg x5]⟩
  ·rename_i h1
   exact⟨r1,by rw[hj _ r1,r2,if_neg h1]⟩
 ·have hs:∀i∈mx::GJ (gj c a b),i∈GJ c:=by
   intro i hi
   rcases ay.1 hi with rfl|hi
   ·exact wP.2 ⟨by omega,x2⟩
   ·obtain⟨h1,h2⟩:=wP.1 hi
    rw[fK] at h1
    rw[hj i (by omega)] at h2
    split at h2
    ·rename_i h3
     rw[←h2,x4] at h3
     exact absurd h3 x5
    ·exact wP.2 ⟨h1,h2⟩
  have hn:(mx::GJ (gj c a b)).Nodup:=by
   refine cI.2 ⟨fun hm=>?_,FW _⟩
   have:=(wP.1 hm).2
   rw[hj mx x1,if_pos x2] at this
   exact x5 this
  simpa using HS hn hs
theorem AK{af:List Term}{eqs:List fO}{aj:List Step}(eW:lz af eqs aj):∀k,k≤aj.length→QY af.length (aR af.length aj k)∧(GJ (aR af.length aj k)).length+k≤af.length
 | 0,_=>by
   have e:∀i,i<af.length→cl (aR af.length aj 0) i=i:=fun i hi=>by
    rw[gX (by rw[iC];exact hi)]
    simp[aR]
   refine⟨⟨iC ..,fun i hi=>by rw[e i hi];exact⟨hi,e i hi⟩⟩,?_⟩
   have:=kd (N:=af.length) (FW (aR af.length aj 0)) fun v hv=>by
    have:=(wP.1 hv).1
    rwa [iC] at this
   omega
 | k+1,hk=>by
   obtain⟨h1,h2⟩:=AK eW k (by omega)
   have hs:=oL eW (k:=k) (by omega)
   rw[R0 (by omega)]
   obtain⟨h3,h4⟩:=Nn h1 hs.a1 hs.b1 hs.ne
   exact⟨h3,by
    have h4':(GJ (gj (aR af.length aj k) (vA aj k) (vB aj k))).length+1≤(GJ (aR af.length aj k)).length:=h4
    omega⟩
theorem Ud{af:List Term}{eqs:List fO}(kG:∀e∈eqs,e.A∈af∧e.B∈af):(closed af eqs).2.length≤af.length:=by
 have:=(AK (mO kG).1 _ (aJ _)).2
 omega
theorem Em{af:List Term}{eqs:List fO}(WZ:gR af)(htm:∀t∈af,isTerm t=true)(kG:∀e∈eqs,e.A∈af∧e.B∈af)(h24:af.length≤24){a b:Term}(ha:a∈af)(hb:b∈af)(hc:gg af (closed af eqs).1 a b=true) :
 jv eqs (l6 af (closed af eqs).2 a b) 400 a b:=by
 have hk:=mO kG
 have hs:=Ud kG
 have hc':=of_decide_eq_true hc
 rw[hk.2] at hc'
 have:=HG hk.1 WZ htm kG ((closed af eqs).2.length+1) (closed af eqs).2.length (aG af a) (aG af b) (by omega) (aJ _) (bA ha) (bA hb) hc'
 rw[yK ha,yK hb] at this
 exact this.up (Nat.le_trans (xG (show _≤24 by omega)) SL)
theorem NM{s:dK}{eqs:List fO}{w:jy}{a b:Term}(h1:nE s eqs=true)(h2:nE s [⟨a,b⟩]=true)(h:jv eqs w 400 a b):lN s eqs w=some ⟨a,b⟩:=by
 unfold jv at h
 unfold lN
 rw[h1,h]
 simp[h2]
structure Gy(s:dK)(ab:List bm):Prop where
 xd:ic s ab
 one:∀l∈ab,l.atom.kind=1→gr s ⟨l.atom.A,l.atom.B⟩=true
theorem Gy.eqs{s:dK}{ab:List bm}(h:Gy s ab):∀e∈aZ ab,gr s e=true:=fun e he=>by
 obtain⟨l,hl,h1,_,rfl⟩:=Jg.1 he
 exact h.one l hl h1
theorem Xr{s:dK}{ab:List bm}(h:fe s ab=true):Gy s ab:=⟨FM h,fun l hl hk=>by
 have:=MU h l hl
 simp only[fq,hk,if_true,al] at this
 exact this.2.2⟩
theorem Gy.nE{s:dK}{ab:List bm}(h:Gy s ab)(h12:(aZ ab).length≤12):nE s (aZ ab)=true:=by
 have hg:=h.xd
 have hi:∀t∈qE (aZ ab),t∈aw ab:=fun t ht=>by
  obtain⟨e,he,h1⟩:=Kk.1 ht
  obtain⟨h2,h3⟩:=hg.Bx e he
  rcases h1 with rfl|rfl
  ·exact h2
  ·exact h3
 have h1:=NT (ts:=qE (aZ ab)) (fun t ht=>hg.term t (hi t ht)) hg.kids hi
 simp only[Mod.nE,al,decide_eq_true_eq,c5]
 exact⟨⟨⟨hg.sig,h12⟩,h.eqs⟩,by have:=hg.n24;omega⟩
theorem Gy.abW{s:dK}{ab:List bm}(h:Gy s ab){a b:Term}(ha:a∈aw ab)(hb:b∈aw ab)(hs:gr s ⟨a,b⟩=true):Mod.nE s [⟨a,b⟩]=true:=by
 have hg:=h.xd
 have hi:∀t∈qE [(⟨a,b⟩:fO)],t∈aw ab:=fun t ht=>by
  obtain⟨e,he,h1⟩:=Kk.1 ht
  rw[fb] at he
  subst he
  rcases h1 with rfl|rfl
  ·exact ha
  ·exact hb
 have h1:=NT (ts:=qE [(⟨a,b⟩:fO)]) (fun t ht=>hg.term t (hi t ht)) hg.kids hi
 simp only[Mod.nE,al,decide_eq_true_eq,c5]
 exact⟨⟨⟨hg.sig,by simp⟩,fun e he=>by rw[fb.1 he];exact hs⟩,by have:=hg.n24;omega⟩
theorem MZ{s:dK}{ab:List bm}{t:Term}(h:t∈numsOf s ab):fv s t=some 1:=of_decide_eq_true (List.mem_filter.1 h).2
theorem xT{s:dK}{ab:List bm}{a b:Term}(ha:a∈numsOf s ab)(hb:b∈numsOf s ab):gr s ⟨a,b⟩=true:=by
 simp[gr,MZ ha,MZ hb]
theorem Gy.more{s:dK}{ab:List bm}{l:bm}(h:Gy s ab)(hn:Next s ab l)(he:l.atom.kind=1→gr s ⟨l.atom.A,l.atom.B⟩=true):Gy s (ab++[l]):=by
 refine⟨hn.1,fun x hx=>?_⟩
 rcases List.mem_append.1 hx with hx|hx
 ·exact h.one x hx
 ·rw[fb.1 hx]
  exact he
theorem A9(a b:Term):(eE a b).atom.kind=2:=by unfold eE;split<;>rfl
theorem ZA{list:List iV}(h:(bL list).code=1):sa list (bL list).times=true:=by
 have hend:∀s0 s1 s2 s3 rows,(ik list s0 s1 s2 s3 rows).code=1→sa list (ik list s0 s1 s2 s3 rows).times=true:=fun s0 s1 s2 s3 rows h=>by
  unfold ik at h⊢
  split at h
  ·split at h
   ·rename_i hf
    rw[if_pos hf]
    exact hf
   ·simp at h
  ·split at h
   ·simp at h
   ·split at h<;>simp at h
 unfold bL at h⊢
 split at h
 ·rename_i hs
  rw[if_pos hs]
  split at h
  ·simp at h
  ·split at h
   ·simp at h
   ·split at h
    ·simp at h
    ·split at h
     ·simp at h
     ·exact hend _ _ _ _ _ h
 ·simp at h
theorem Nc{run:List bm→Ag}{a b:Term}:∀{ls:List (List bm)}{out:List Case},(mj run a b ls out).code=1→(mj run a b ls out).case= .mk 4 0 sU [] a b (out++ls.map fun l=>(run l).case)∧∀l∈ls,(run l).code=1
 | [],out,_=>⟨by rw[ob];simp,by simp⟩
 | l::ls,out,h=>by
   rw[mF] at h⊢
   rcases aa ((run l).code=1) with h1|h1
   ·rw[if_pos h1] at h⊢
    obtain⟨i1,i2⟩:=Nc h
    refine⟨by rw[i1];simp,fun x hx=>?_⟩
    rcases ay.1 hx with rfl|hx
    ·exact h1
    ·exact i2 x hx
   ·rw[if_neg h1] at h
    exact absurd h h1
theorem DM{s:dK}{nums:List Term}{g:List bm→Case}{bD:Nat}:∀{ls:List (List bm)},(∀l∈ls,iP s nums (g l) l bD=true)→jl s nums (ls.map g) ls bD=true
 | [],_=>by rw[List.map_nil,jl];· intros;contradiction
 | l::ls,h=>by
   rw[aQ,jl,al]
   exact⟨h l (by simp),DM fun x hx=>h x (by simp[hx])⟩
theorem GW{s:dK}:∀(f:Nat)(ab:List bm)(bD:Nat),Gy s ab→bD+f≤14→(fW s (aw ab) (numsOf s ab) f ab).code=1→iP s (numsOf s ab) (fW s (aw ab) (numsOf s ab) f ab).case ab bD=true
 | 0,ab,_,_,_,h=>by simp[fW,ph] at h
 | f+1,ab,bD,hF,hd,h=>by
   have hg:=hF.xd
   have hdeep:¬14<bD:=by omega
   have n0:isNone aM=true:=rfl
   rcases aa (12<(aZ ab).length) with h12|h12
   ·rw[so h12] at h
    simp[ph] at h
   have hE:=hF.nE (by omega)
   have hwhy:∀{a b:Term},a∈aw ab→b∈aw ab→gr s ⟨a,b⟩=true→gg (aw ab) (closed (aw ab) (aZ ab)).1 a b=true→lN s (aZ ab) (l6 (aw ab) (closed (aw ab) (aZ ab)).2 a b)=some ⟨a,b⟩:=fun ha hb hs hc=>
    NM hE (hF.abW ha hb hs) (Em hg.kids hg.term hg.Bx hg.n24 ha hb hc)
   cases hc:jQ (iA (aw ab) (closed (aw ab) (aZ ab)).1) ab with
   | some n=>
     rw[pQ h12 hc]
     obtain⟨hn,hp⟩:=BB hc
     have hgd:ab.getD n ED=ab[n]:=getD_at hn
     simp only[iA,al,decide_eq_true_eq] at hp
     obtain⟨p1,p2,p3⟩:=hp
     have hm:=ak hn
     obtain⟨hA,hB⟩:=hg.K1 _ hm p2
     have hw:=hwhy hA hB (hF.one _ hm p2) p3
     rw[hgd,iP,if_neg hdeep,if_pos rfl,hw]
     have hw2:within (n:Int) 0 ((ab.length:Int)-1)=true:=by simp[within];omega
     simp[bare,Case.n,Case.qk,Case.kids,Case.A,Case.B,Case.times,n0,hw2,hn,p1,p2]
   | none=>
   rcases aa ((bL (dF (numsOf s ab) ab)).code=1) with h1|h1
   ·rw[sn h12 hc h1,iP,if_neg hdeep]
    simp[bare,Case.n,Case.qk,Case.kids,Case.A,Case.B,n0,ZA h1]
   rcases aa ((bL (dF (numsOf s ab) ab)).code=0) with h0|h0
   ·cases hp:bW (numsOf s ab).length (dU true (aw ab) (numsOf s ab) (closed (aw ab) (aZ ab)).1 ab) with
    | some q=>
      rw[rF h12 hc h0 hp] at h⊢
      obtain⟨q1,q2,q3⟩:=kY hp
      have hn:=E2 hg q1 q2 (rl q3)
      have m1:(numsOf s ab).getD q.1 aM∈numsOf s ab:=mQ (by omega)
      have m2:(numsOf s ab).getD q.2 aM∈numsOf s ab:=mQ q2
      have jJ:=A8 hg q1 q2
      have hsm:gg (aw ab) (closed (aw ab) (aZ ab)).1 ((numsOf s ab).getD q.1 aM) ((numsOf s ab).getD q.2 aM)=true:=by
       simp only[dU,if_true,al] at q3
       exact q3.2
      have hw:=hwhy (oK _ m1) (oK _ m2) (xT m1 m2) hsm
      generalize (numsOf s ab).getD q.1 aM=a at *
      generalize (numsOf s ab).getD q.2 aM=b at *
      unfold wW at h⊢
      rcases aa ((fW s (aw ab) (numsOf s ab) f (ab++[hU a b])).code=1) with hr|hr
      ·rw[if_pos hr,iP,if_neg hdeep]
       have hF':=hF.more hn fun _=>xT m1 m2
       obtain⟨n1,n2,n3,_⟩:=hn
       have ih:=GW f (ab++[hU a b]) (bD+1) hF' (by omega) (by rw[n2,n3];exact hr)
       rw[n2,n3] at ih
       have hdf:differ (numsOf s ab) a b=true:=vm.2 ⟨m1,m2,jJ⟩
       rw[if_neg (by decide),if_neg (by decide),if_pos rfl,hw]
       have hkk:jl s (numsOf s ab) [(fW s (aw ab) (numsOf s ab) f (ab++[hU a b])).case] [ab++[hU a b]] (bD+1)=true:=by
        rw[jl,ih,jl]
        ·rfl
        ·intros;contradiction
       simp[bare,Case.n,Case.qk,Case.kids,Case.A,Case.B,Case.times,n0,hdf,hkk]
      ·rw[if_neg hr] at h
       exact absurd h hr
    | none=>
    cases hq:bW (numsOf s ab).length (dU false (aw ab) (numsOf s ab) (closed (aw ab) (aZ ab)).1 ab) with
    | some q=>
      rw[oT h12 hc h0 hp hq] at h⊢
      obtain⟨q1,q2,q3⟩:=kY hq
      have hn:=xw hg q1 q2 (vS q3)
      have m1:(numsOf s ab).getD q.1 aM∈numsOf s ab:=mQ (by omega)
      have m2:(numsOf s ab).getD q.2 aM∈numsOf s ab:=mQ q2
      have jJ:=A8 hg q1 q2
      generalize (numsOf s ab).getD q.1 aM=a at *
      generalize (numsOf s ab).getD q.2 aM=b at *
      obtain⟨p1,p2⟩:=Nc h
      rw[p1,iP,if_neg hdeep]
      have mR:jl s (numsOf s ab) (((fS a b).map fun l=>ab++[l]).map fun l=>(fW s (aw ab) (numsOf s ab) f l).case) ((fS a b).map fun l=>ab++[l]) (bD+1)=true:=by
       refine DM fun L hL=>?_
       obtain⟨l,hl,rfl⟩:=bG.1 hL
       have hnl:=hn l hl
       have hF':=hF.more hnl fun hk=>by
        simp only[fS,ay,List.not_mem_nil,or_false] at hl
        rcases hl with rfl|rfl|rfl
        ·exact xT m1 m2
        ·rw[A9] at hk;omega
        ·rw[A9] at hk;omega
       obtain⟨n1,n2,n3,_⟩:=hnl
       have ih:=GW f (ab++[l]) (bD+1) hF' (by omega) (by rw[n2,n3];exact p2 _ hL)
       rw[n2,n3] at ih
       exact ih
      have hdf:differ (numsOf s ab) a b=true:=vm.2 ⟨m1,m2,jJ⟩
      rw[if_neg (by decide),if_neg (by decide),if_neg (by decide),if_pos rfl,List.nil_append,mR,hdf]
      simp[bare,Case.n,Case.qk,Case.kids,Case.A,Case.B,Case.times,fS]
    | none=>
      rw[pL h12 hc h0 hp hq] at h
      split at h<;>simp[ph] at h
   ·rw[rY h12 hc h1 h0] at h
    simp[ph] at h
theorem SN{s:dK}{ab:List bm}(h:(dL s ab).code=1):CC s ab (dL s ab).case=true:=by
 have hb:fe s ab=true:=by
  cases hb:fe s ab with
  | true=>rfl
  | false=>simp[dL,hb] at h
 have e:dL s ab=fW s (aw ab) (numsOf s ab) 13 ab:=by simp[dL,hb]
 rw[e] at h⊢
 rw[CC,hb,GW 13 ab 1 (Xr hb) (by omega) h]
 rfl
theorem Tb{s:dK}{ab:List bm}:(dL s ab).code=3↔fe s ab=false:=by
 have jJ:∀(f:Nat)(l:List bm),(fW s (aw ab) (numsOf s ab) f l).code≠3:=by
  intro f
  induction f with
  | zero=>intro l;simp[fW,ph]
  | succ f ih=>
    intro l
    have hpart:∀(ls:List (List bm))(a b:Term)(out:List Case),(mj (fW s (aw ab) (numsOf s ab) f) a b ls out).code≠3:=by
     intro ls
     induction ls with
     | nil=>intro a b out;rw[ob];simp
     | cons x xs ih2=>
       intro a b out
       rw[mF]
       split
       ·exact ih2 _ _ _
       ·exact ih x
    rcases aa (12<(aZ l).length) with h12|h12
    ·rw[so h12];simp[ph]
    cases hc:jQ (iA (aw ab) (closed (aw ab) (aZ l)).1) l with
    | some n=>rw[pQ h12 hc];simp
    | none=>
    rcases aa ((bL (dF (numsOf s ab) l)).code=1) with h1|h1
    ·rw[sn h12 hc h1];simp
    rcases aa ((bL (dF (numsOf s ab) l)).code=0) with h0|h0
    ·cases hp:bW (numsOf s ab).length (dU true (aw ab) (numsOf s ab) (closed (aw ab) (aZ l)).1 l) with
     | some q=>
       rw[rF h12 hc h0 hp]
       unfold wW
       split
       ·simp
       ·exact ih _
     | none=>
     cases hq:bW (numsOf s ab).length (dU false (aw ab) (numsOf s ab) (closed (aw ab) (aZ l)).1 l) with
     | some q=>
       rw[oT h12 hc h0 hp hq]
       exact hpart _ _ _ _
     | none=>
       rw[pL h12 hc h0 hp hq]
       split<;>simp[ph]
    ·rw[rY h12 hc h1 h0];simp[ph]
 cases hb:fe s ab with
 | true=>
   have e:dL s ab=fW s (aw ab) (numsOf s ab) 13 ab:=by simp[dL,hb]
   rw[e]
   exact⟨fun h=>absurd h (jJ 13 ab),fun h=>by cases h⟩
 | false=>simp[dL,hb]
theorem Tp(s:dK)(ab:List bm):(dL s ab).code=0∨(dL s ab).code=1∨(dL s ab).code=2∨(dL s ab).code=3:=by
 have lh:∀(f:Nat)(l:List bm),(fW s (aw ab) (numsOf s ab) f l).code=0∨(fW s (aw ab) (numsOf s ab) f l).code=1∨(fW s (aw ab) (numsOf s ab) f l).code=2:=by
  intro f
  induction f with
  | zero=>intro l;simp[fW,ph]
  | succ f ih=>
    intro l
    have hpart:∀(ls:List (List bm))(a b:Term)(out:List Case),(mj (fW s (aw ab) (numsOf s ab) f) a b ls out).code=0∨(mj (fW s (aw ab) (numsOf s ab) f) a b ls out).code=1∨(mj (fW s (aw ab) (numsOf s ab) f) a b ls out).code=2:=by
     intro ls
     induction ls with
     | nil=>intro a b out;rw[ob];simp
     | cons x xs ih2=>
       intro a b out
       rw[mF]
       split
       ·exact ih2 _ _ _
       ·exact ih x
    rcases aa (12<(aZ l).length) with h12|h12
    ·rw[so h12];simp[ph]
    cases hc:jQ (iA (aw ab) (closed (aw ab) (aZ l)).1) l with
    | some n=>rw[pQ h12 hc];simp
    | none=>
    rcases aa ((bL (dF (numsOf s ab) l)).code=1) with h1|h1
    ·rw[sn h12 hc h1];simp
    rcases aa ((bL (dF (numsOf s ab) l)).code=0) with h0|h0
    ·cases hp:bW (numsOf s ab).length (dU true (aw ab) (numsOf s ab) (closed (aw ab) (aZ l)).1 l) with
     | some q=>
       rw[rF h12 hc h0 hp]
       unfold wW
       split
       ·simp
       ·exact ih _
     | none=>
     cases hq:bW (numsOf s ab).length (dU false (aw ab) (numsOf s ab) (closed (aw ab) (aZ l)).1 l) with
     | some q=>
       rw[oT h12 hc h0 hp hq]
       exact hpart _ _ _ _
     | none=>
       rw[pL h12 hc h0 hp hq]
       split<;>simp[ph]
    ·rw[rY h12 hc h1 h0];simp[ph]
 cases hb:fe s ab with
 | true=>
   have e:dL s ab=fW s (aw ab) (numsOf s ab) 13 ab:=by simp[dL,hb]
   rw[e]
   have:=lh 13 ab
   omega
 | false=>simp[dL,hb]
end Go.Mod
namespace Go.Mod
set_option maxRecDepth 100000
theorem SB(s:dK)(ab:List bm):((dL s ab).code=0∨(dL s ab).model=jo)∧((dL s ab).code=1∨(dL s ab).case=ng):=by
 have lh:∀(f:Nat)(l:List bm),((fW s (aw ab) (numsOf s ab) f l).code=0∨(fW s (aw ab) (numsOf s ab) f l).model=jo)∧((fW s (aw ab) (numsOf s ab) f l).code=1∨(fW s (aw ab) (numsOf s ab) f l).case=ng):=by
  intro f
  induction f with
  | zero=>intro l;simp[fW,ph]
  | succ f ih=>
    intro l
    have hpart:∀(ls:List (List bm))(a b:Term)(out:List Case),((mj (fW s (aw ab) (numsOf s ab) f) a b ls out).code=0∨(mj (fW s (aw ab) (numsOf s ab) f) a b ls out).model=jo)∧((mj (fW s (aw ab) (numsOf s ab) f) a b ls out).code=1∨(mj (fW s (aw ab) (numsOf s ab) f) a b ls out).case=ng):=by
     intro ls
     induction ls with
     | nil=>intro a b out;rw[ob];simp
     | cons x xs ih2=>
       intro a b out
       rw[mF]
       split
       ·exact ih2 _ _ _
       ·exact⟨(ih x).1,.inr rfl⟩
    rcases aa (12<(aZ l).length) with h12|h12
    ·rw[so h12];simp[ph]
    cases hc:jQ (iA (aw ab) (closed (aw ab) (aZ l)).1) l with
    | some n=>rw[pQ h12 hc];simp
    | none=>
    rcases aa ((bL (dF (numsOf s ab) l)).code=1) with h1|h1
    ·rw[sn h12 hc h1];simp
    rcases aa ((bL (dF (numsOf s ab) l)).code=0) with h0|h0
    ·cases hp:bW (numsOf s ab).length (dU true (aw ab) (numsOf s ab) (closed (aw ab) (aZ l)).1 l) with
     | some q=>
       rw[rF h12 hc h0 hp]
       unfold wW
       split
       ·simp
       ·exact⟨(ih _).1,.inr rfl⟩
     | none=>
     cases hq:bW (numsOf s ab).length (dU false (aw ab) (numsOf s ab) (closed (aw ab) (aZ l)).1 l) with
     | some q=>
       rw[oT h12 hc h0 hp hq]
       exact hpart _ _ _ _
     | none=>
       rw[pL h12 hc h0 hp hq]
       split<;>simp[ph]
    ·rw[rY h12 hc h1 h0];simp[ph]
 cases hb:fe s ab with
 | true=>
   have e:dL s ab=fW s (aw ab) (numsOf s ab) 13 ab:=by simp[dL,hb]
   rw[e]
   exact lh 13 ab
 | false=>simp[dL,hb]
end Go.Mod
