/-
  What is drawn from a code, in plain Lean: words, terms, atoms, forms. No program is walked here.
-/
import Derived.Test.YtgpjhjalfakpoaaGreatKBEa
import Derived.Test.YtgpjhjalfakpoaaGreatKBDa
set_option linter.unusedVariables false
set_option linter.unusedSimpArgs false
open Bool renaming and_eq_true→ae,true_and→az
open Int renaming toNat_natCast→aA,mul_le_mul_of_nonneg_right→ez,tmod_lt_of_pos→jg,natCast_add→kZ,tmod_nonneg→k8
open List renaming getElem?_eq_getElem→ab,getElem_mem→ah,length_append→ao,replicate→au,mem_cons→aw,getD_eq_getElem?_getD→aB,length_nil→bH,mem_singleton→bX,not_mem_nil→b9,length_singleton→cq,mem_of_getElem?→dE
open Nat renaming one_le_two_pow→bE,pow_le_pow_right→bJ
namespace Go.Mod
open Go.Eng
structure nh(b:List Int):Prop where
 len:b.length≤2000
 byte:∀x∈b,0≤x∧x≤255
theorem nh.getD{b:List Int}(h:nh b)(i:Nat):0≤b.getD i 0∧b.getD i 0≤255:=by
 rw[aB]
 cases hx:b[i]? with
 | none=>simp
 | some x=>exact h.byte x (dE hx)
def nE(b:List Int)(p:Int):Int:=b.getD (p.tmod b.length).toNat 0*131+b.getD ((p*7+3).tmod b.length).toNat 0*1117+p*29+p.tdiv b.length*53
def bo(b:List Int)(p n:Int):Int:=
 if n<1 then 0 else if b.length=0 then 0 else
 if p<b.length then(b.getD p.toNat 0).tmod n else(CI (nE b p) ((nE b p).tdiv 64)).tmod n
def dG(b:List Int)(p:Int)(l:List Int):Int:=l.getD (bo b p l.length).toNat 0
def E5(b:List Int)(p:Int)(l:List lH):lH:=l.getD (bo b p l.length).toNat []
theorem Kw{b:List Int}(h:nh b){p:Int}(h1:0≤p)(h2:p≤1000000000)(h3:b.length≠0):0≤p.tdiv b.length∧p.tdiv b.length≤p∧0≤nE b p∧nE b p≤1000000000000:=by
 have e1:=h.getD (p.tmod b.length).toNat
 have e2:=h.getD ((p*7+3).tmod b.length).toNat
 have e3:0≤p.tdiv b.length:=Int.tdiv_nonneg h1 (Int.natCast_nonneg _)
 have e4:p.tdiv b.length≤p:=by
  rw[Int.tdiv_eq_ediv_of_nonneg h1]
  exact Int.ediv_le_self _ h1
 refine⟨e3,e4,?_,?_⟩<;>(unfold nE;omega)
theorem LQ{b:List Int}(h:nh b){p n:Int}(h1:0≤p)(hn:1≤n):0≤bo b p n∧bo b p n<n:=by
 unfold bo
 rw[if_neg (by omega)]
 split
 ·omega
 ·split
  ·have:=h.getD p.toNat
   exact⟨k8 _ this.1,jg _ (by omega)⟩
  ·exact⟨k8 _ (K7 _ _),jg _ (by omega)⟩
theorem kq{b:List Int}(h:nh b){p:Int}{n:Nat}(h1:0≤p)(hn:1≤n):∃k:Nat,bo b p n=k∧k<n:=by
 have:=LQ h (p:=p) (n:=n) h1 (by omega)
 exact⟨(bo b p n).toNat,by omega,by omega⟩
theorem kH{b:List Int}(h:nh b){p:Int}{l:List Int}(h1:0≤p)(hl:l≠[]):dG b p l∈l:=by
 have hn:1≤l.length:=by cases l with|nil=>exact(hl rfl).elim|cons=>simp
 obtain⟨k,e,hk⟩:=kq h (n:=l.length) h1 hn
 unfold dG
 rw[e,aA,aB,ab hk]
 exact ah hk
theorem LA{b:List Int}(h:nh b){p:Int}{l:List lH}(h1:0≤p)(hl:l≠[]):E5 b p l∈l:=by
 have hn:1≤l.length:=by cases l with|nil=>exact(hl rfl).elim|cons=>simp
 obtain⟨k,e,hk⟩:=kq h (n:=l.length) h1 hn
 unfold E5
 rw[e,aA,aB,ab hk]
 exact ah hk
def dR{α β:Type}(f:α→Int→β×Int):List α→Int→List β×Int
 | [],p=>([],p)
 | a::as,p=>((f a p).1::(dR f as (f a p).2).1,(dR f as (f a p).2).2)
theorem zt{α β:Type}(f:α→Int→β×Int)(x:α):∀(as:List α)(p:Int),dR f (as++[x]) p=((dR f as p).1++[(f x (dR f as p).2).1],(f x (dR f as p).2).2)
 | [],p=>rfl
 | a::as,p=>by simp only[List.cons_append,dR,zt f x as]
theorem zN{α β:Type}(f:α→Int→β×Int){as:List α}{i:Nat}(h:i<as.length)(p:Int):dR f (as.take (i+1)) p=((dR f (as.take i) p).1++[(f as[i] (dR f (as.take i) p).2).1],(f as[i] (dR f (as.take i) p).2).2):=by
 have e:as.take (i+1)=as.take i++[as[i]]:=by rw[List.take_add_one,ab h];rfl
 rw[e,zt]
theorem DF{α β:Type}{f:α→Int→β×Int}{c:Int}(hf:∀a p,p≤(f a p).2∧(f a p).2≤p+c):∀(as:List α)(p:Int),p≤(dR f as p).2∧(dR f as p).2≤p+as.length*c
 | [],p=>by simp[dR]
 | a::as,p=>by
   have h1:=hf a p
   have h2:=DF hf as (f a p).2
   simp only[dR,List.length_cons]
   have:((as.length+1:Nat):Int)*c=as.length*c+c:=by rw[kZ,Int.add_mul];simp
   omega
theorem oV{α β:Type}(f:α→Int→β×Int):∀(as:List α)(p:Int),(dR f as p).1.length=as.length
 | [],_=>rfl
 | a::as,p=>by simp[dR,oV f as]
def dZ{α:Type}(f:α→Int→α×Int):Nat→α→Int→α×Int
 | 0,a,p=>(a,p)
 | n+1,a,p=>dZ f n (f a p).1 (f a p).2
def sG(k:Int):eJ:=
 if k=0 then⟨[⟨[97],[],0⟩,⟨[98],[],0⟩,⟨[99],[],0⟩,⟨[102],[0],0⟩,⟨[103],[0,0],0⟩]⟩ else
 if k=1 then⟨[⟨[97],[],0⟩,⟨[98],[],0⟩,⟨[104],[0],1⟩,⟨[120],[],1⟩,⟨[121],[],1⟩]⟩ else
 if k=2 then⟨[⟨[107],[1],1⟩,⟨[120],[],1⟩,⟨[121],[],1⟩,⟨[122],[],1⟩]⟩ else
 if k=3 then⟨[⟨[97],[],0⟩,⟨[117],[1],0⟩,⟨[118],[1,0],1⟩,⟨[120],[],1⟩,⟨[121],[],1⟩]⟩ else⟨[]⟩
def gx(b:List Int)(p:Int):eJ×Int:=(sG (dG b p [0,0,1,1,2,3,1,4]),p+1)
def c7(s:eJ):Prop:=s.syms.length≤7∧∀x∈s.syms,x.args.length≤2∧dV x.name=true
instance(s:eJ):Decidable (c7 s):=by unfold c7;infer_instance
theorem lX(k:Int):c7 (sG k):=by
 unfold sG
 split
 ·decide
 ·split
  ·decide
  ·split
   ·decide
   ·split<;>decide
def Ph(b:List Int)(p:Int)(x:Sym):Sym:=⟨E5 b p [[],[65],[97,98,99],[122,122],[97]],x.args,x.sort⟩
def oh(b:List Int):Nat→List Sym→Int→List Sym×Int
 | 0,l,p=>(l,p)
 | n+1,l,p=>oh b n (l++[⟨122::E5 b p [[97],[98],[122]],[],0⟩]) (p+1)
def dK(b:List Int)(s:eJ)(p:Int):eJ×Int:=
 if s.syms.length=0 then(s,p) else
 if 0<bo b p 8 then(s,p+1) else
 let k:=(bo b (p+1) s.syms.length).toNat
 let c:=bo b (p+2) 5
 let x:=s.syms.getD k ⟨[],[],0⟩
 if c=0 then(⟨s.syms.set k ⟨E5 b (p+3) [[],[65],[97,98,99],[122,122],[97]],x.args,x.sort⟩⟩,p+4) else
 if c=1 then(⟨s.syms.set k ⟨x.name,x.args++[dG b (p+3) [0,2,-1,1]],x.sort⟩⟩,p+4) else
 if c=2 then(⟨s.syms.set k ⟨x.name,x.args,dG b (p+3) [1,2,-1,0]⟩⟩,p+4) else
 if c=3 then(⟨s.syms++[x]⟩,p+3) else
 (⟨(oh b (8-s.syms.length) s.syms (p+3)).1⟩,(oh b (8-s.syms.length) s.syms (p+3)).2)
theorem AQ(b:List Int):∀(n:Nat)(l:List Sym)(p:Int),(oh b n l p).2=p+n∧(oh b n l p).1.length=l.length+n
 | 0,_,_=>by simp[oh]
 | n+1,l,p=>by
   obtain⟨h1,h2⟩:=AQ b n (l++[⟨122::E5 b p [[97],[98],[122]],[],0⟩]) (p+1)
   simp only[oh,h1,h2,ao,cq]
   omega
theorem vY(b:List Int)(s:eJ)(p:Int):p≤(dK b s p).2∧(dK b s p).2≤p+20:=by
 have h1:=(AQ b (8-s.syms.length) s.syms (p+3)).1
 unfold dK
 simp only
 repeat' split
 all_goals(simp only[h1];omega)
def ic(s:eJ)(sort:Int)(bj:Nat):List Sym:=s.syms.filter fun x=>decide (x.sort=sort)&&(decide (1<bj)||decide (x.args.length=0))
def dW(b:List Int)(s:eJ):Nat→Int→Int→Term×Int
 | 0,_,p=>(.mk [113] [],p)
 | d+1,sort,p=>
   if(ic s sort (d+1)).length=0 then(.mk [113] [],p) else
   let x:=(ic s sort (d+1)).getD (bo b p (ic s sort (d+1)).length).toNat mo
   (.mk x.name (dR (dW b s d) x.args (p+1)).1,(dR (dW b s d) x.args (p+1)).2)
theorem oe{s:eJ}{sort:Int}{d:Nat}{i:Nat}(h:c7 s):((ic s sort d).getD i mo).args.length≤2∧(i<(ic s sort d).length→dV ((ic s sort d).getD i mo).name=true∧(d≤1→((ic s sort d).getD i mo).args=[])):=by
 rw[aB]
 cases hx:(ic s sort d)[i]? with
 | none=>simp only[Option.getD_none];exact⟨by decide,fun hi=>by rw[ab hi] at hx;cases hx⟩
 | some x=>
   simp only[Option.getD_some]
   have hm:=dE hx
   rw[ic,List.mem_filter] at hm
   obtain⟨h1,h2⟩:=h.2 x hm.1
   refine⟨h1,fun _=>⟨h2,fun hd=>?_⟩⟩
   have:=hm.2
   simp only[ae,Bool.or_eq_true,decide_eq_true_eq] at this
   rcases this.2 with h3|h3
   ·omega
   ·exact List.eq_nil_of_length_eq_zero h3
theorem two_pow_pos(d:Nat):(1:Int)≤2 ^ d∧(2:Int) ^ (d+1)=2*2 ^ d:=by
 have h:=bE (n:=d)
 have e:(2:Int) ^ d=((2 ^ d:Nat):Int):=by simp
 exact⟨by omega,by rw[Int.pow_succ,Int.mul_comm]⟩
theorem x6{b:List Int}{s:eJ}(h:c7 s):∀(d:Nat)(sort p:Int),p≤(dW b s d sort p).2∧(dW b s d sort p).2≤p+(2 ^ d-1)
 | 0,_,p=>by simp[dW]
 | d+1,sort,p=>by
   have ih:=x6 (b:=b) h d
   obtain⟨hp,hp2⟩:=two_pow_pos d
   simp only[dW]
   split
   ·simp only;omega
   ·have h1:=(oe (sort:=sort) (d:=d+1) (i:=(bo b p (ic s sort (d+1)).length).toNat) h).1
    generalize (ic s sort (d+1)).getD (bo b p (ic s sort (d+1)).length).toNat mo=x at h1⊢
    have h2:=DF (f:=dW b s d) (c:=2 ^ d-1) (fun a p=>ih a p) x.args (p+1)
    have h3:(x.args.length:Int)*(2 ^ d-1)≤2*(2 ^ d-1):=ez (by omega) (by omega)
    simp only
    omega
theorem yM{d:Nat}:∀{ts:List Term},(∀t∈ts,a8 t d=true)→bN ts d=true
 | [],_=>by simp[bN]
 | t::ts,h=>by
   simp only[bN,h t (by simp),az]
   exact yM fun u hu=>h u (by simp[hu])
theorem qT{b:List Int}(hb:nh b){s:eJ}(h:c7 s):∀(d:Nat)(sort p:Int),0≤p→1≤d→a8 (dW b s d sort p).1 d=true
 | 0,_,_,_,hd=>by omega
 | d+1,sort,p,hp,_=>by
   simp only[dW]
   split
   ·simp only[a8,bN,bH]
    decide
   ·rename_i mq
    have hn:1≤(ic s sort (d+1)).length:=by omega
    obtain⟨k,e,hk⟩:=kq hb (p:=p) hp hn
    have h1:=oe (sort:=sort) (d:=d+1) (i:=k) h
    rw[e,aA]
    generalize (ic s sort (d+1)).getD k mo=x at h1⊢
    obtain⟨h2,h3⟩:=h1
    obtain⟨h3,h4⟩:=h3 hk
    simp only[a8,h3,az,ae,decide_eq_true_eq]
    refine⟨by rw[oV];exact h2,?_⟩
    rcases Nat.eq_zero_or_pos d with rfl|hd
    ·rw[h4 (Nat.le_refl 1)]
     simp[dR,bN]
    ·refine yM fun t ht=>?_
     have key:∀(as:List Int)(q:Int),0≤q→∀t∈(dR (dW b s d) as q).1,a8 t d=true:=by
      intro as
      induction as with
      | nil=>intro q _ t h;simp[dR] at h
      | cons a as ih=>
        intro q hq t ht
        simp only[dR,aw] at ht
        rcases ht with rfl|ht
        ·exact qT hb h d a q hq hd
        ·exact ih _ (by have:=(x6 (b:=b) h d a q).1;omega) t ht
     exact key _ _ (by omega) t ht
def zJ(b:List Int)(s:eJ)(p:Int):Term×Int:=
 let r:=dW b s (dG b (p+1) [2,3,1,4]).toNat (bo b p 2) (p+2)
 let c:=bo b r.2 48
 if c=0 then(.mk (E5 b (r.2+1) [[],[65],[97,98,99],[102]]) r.1.kids,r.2+2) else
 if c=1 then(.mk r.1.name (r.1.kids++[r.1]),r.2+1) else
 if c=2 then(.mk r.1.name (r.1.kids++[r.1,r.1]),r.2+1) else(r.1,r.2+1)
def gz(t:Term)(n:Int):List Term→List Int→Bool→List Term×List Int
 | u::us,k::ks,done=>
   let now:=!done&& !iE (aF u) (aF t)
   let own:=decide (aF u≠aF t)
   let r:=gz t n us ks (done||now)
   ((if now then [t] else [])++((if own then [u] else [])++r.1),(if now then [n] else [])++((if own then [k] else [])++r.2))
 | _,_,done=>if done then([],[]) else([t],[n])
def Kp(a:Atom)(t:Term)(n:Int):Atom:=⟨a.kind,fq,fq,(gz t n a.aP a.times false).1,(gz t n a.aP a.times false).2,a.bound,a.strict⟩
theorem Al(t:Term)(n:Int):∀(us:List Term)(ks:List Int)(d:Bool),(gz t n us ks d).1.length=(gz t n us ks d).2.length∧(gz t n us ks d).1.length≤us.length+(if d then 0 else 1)
 | u::us,k::ks,d=>by
   simp only[gz]
   generalize decide (aF u≠aF t)=o
   generalize iE (aF u) (aF t)=q
   have h:=Al t n us ks (d||(!d&& !q))
   generalize gz t n us ks (d||(!d&& !q))=r at h
   cases d<;>cases q<;>cases o<;>simp at h⊢<;>omega
 | [],_,d=>by cases d<;>simp[gz]
 | _::_,[],d=>by cases d<;>simp[gz]
def gE(b:List Int)(s:eJ)(a:Atom)(p:Int):Atom×Int:=
 let r:=dW b s (dG b p [1,1,2]).toNat 1 (p+1)
 (Kp a r.1 (dG b r.2 [1,-1,1,-1,2,-2]),r.2+1)
def jK(b:List Int)(s:eJ)(p:Int):Atom×Int:=
 if bo b p 2=0 then
  let x:=dW b s (dG b (p+2) [1,2]).toNat (bo b (p+1) 2) (p+3)
  let y:=dW b s (dG b x.2 [1,1,2]).toNat (bo b (p+1) 2) (x.2+1)
  (⟨1,x.1,y.1,[],[],0,false⟩,y.2)
 else dZ (gE b s) (dG b (p+3) [1,2,2,3]).toNat ⟨2,fq,fq,[],[],dG b (p+1) [0,1,-1,2,3,-4],decide (bo b (p+2) 3=0)⟩ (p+4)
theorem CD{P:Term→Prop}{t:Term}{n:Int}(ht:P t):∀(us:List Term)(ks:List Int)(d:Bool),(∀u∈us,P u)→∀u∈(gz t n us ks d).1,P u
 | u::us,k::ks,d,h,v,hv=>by
   have ih:=CD (n:=n) ht us ks (d||(!d&& !iE (aF u) (aF t))) (fun w hw=>h w (by simp[hw]))
   simp only[gz,List.mem_append] at hv
   rcases hv with hv|hv|hv
   ·split at hv
    ·simp only[bX] at hv;rw[hv];exact ht
    ·simp at hv
   ·split at hv
    ·simp only[bX] at hv;rw[hv];exact h u (by simp)
    ·simp at hv
   ·exact ih v hv
 | [],_,d,_,v,hv=>by
   cases d<;>simp[gz] at hv
   rw[hv];exact ht
 | _::_,[],d,_,v,hv=>by
   cases d<;>simp[gz] at hv
   rw[hv];exact ht
theorem zL{t:Term}:∀{d e:Nat},d≤e→a8 t d=true→a8 t e=true:=by
 intro d e h
 induction e with
 | zero=>intro ht;obtain rfl:d=0:=by omega
         exact ht
 | succ e ih=>
   intro ht
   rcases Nat.lt_or_ge d (e+1) with h1|h1
   ·exact tI t e (ih (by omega) ht)
   ·obtain rfl:d=e+1:=by omega
    exact ht
structure mM(m:Nat)(a:Atom):Prop where
 len:a.aP.length=a.times.length
 OP:a.aP.length≤m
 sh:∀t∈a.aP,a8 t 4=true
theorem GV{m:Nat}{a:Atom}{t:Term}(h:mM m a)(ht:a8 t 4=true)(n:Int):mM (m+1) (Kp a t n):=by
 obtain⟨h1,h2⟩:=Al t n a.aP a.times false
 exact⟨h1,by have:=h.OP;simp only[Bool.false_eq_true,if_false] at h2;simp only[Kp];omega,CD (P:=fun t=>a8 t 4=true) ht _ _ _ h.sh⟩
theorem mG{b:List Int}(hb:nh b){p:Int}(h1:0≤p){l:List Int}(hl:l≠[])(hd:∀x∈l,1≤x∧x≤4):∃d:Nat,dG b p l=d∧1≤d∧d≤4:=by
 have:=hd _ (kH hb h1 hl)
 exact⟨(dG b p l).toNat,by omega,by omega,by omega⟩
theorem rm{d e:Nat}(h:d≤e):(2:Int) ^ d≤2 ^ e:=by
 have:=bJ (n:=2) (by omega) h
 have e1:(2:Int) ^ d=((2 ^ d:Nat):Int):=by simp
 have e2:(2:Int) ^ e=((2 ^ e:Nat):Int):=by simp
 rw[e1,e2]
 exact Int.ofNat_le.2 this
theorem sx{b:List Int}{s:eJ}(h:c7 s){d:Nat}(hd:d≤4)(sort p:Int):p≤(dW b s d sort p).2∧(dW b s d sort p).2≤p+15:=by
 have h1:=x6 (b:=b) h d sort p
 have h2:=rm hd
 omega
theorem Am{b:List Int}(hb:nh b){s:eJ}(h:c7 s){a:Atom}{p:Int}(hp:0≤p):p≤(gE b s a p).2∧(gE b s a p).2≤p+17:=by
 obtain⟨d,e,h1,h2⟩:=mG hb hp (l:=[1,1,2]) (by simp) (by decide)
 have:=sx (b:=b) h h2 1 (p+1)
 simp only[gE,e,aA]
 omega
theorem r9{b:List Int}(hb:nh b){s:eJ}(h:c7 s){m:Nat}{a:Atom}{p:Int}(hp:0≤p)(ha:mM m a):mM (m+1) (gE b s a p).1:=by
 obtain⟨d,e,h1,h2⟩:=mG hb hp (l:=[1,1,2]) (by simp) (by decide)
 simp only[gE,e,aA]
 exact GV ha (zL h2 (qT hb h d 1 (p+1) (by omega) h1)) _
theorem Iw{b:List Int}(hb:nh b){s:eJ}(h:c7 s):∀(n m:Nat)(a:Atom)(p:Int),0≤p→mM m a→p≤(dZ (gE b s) n a p).2∧(dZ (gE b s) n a p).2≤p+n*17∧mM (m+n) (dZ (gE b s) n a p).1
 | 0,m,a,p,hp,ha=>by simpa[dZ] using ha
 | n+1,m,a,p,hp,ha=>by
   have h1:=Am hb h (a:=a) hp
   have h2:=Iw hb h n (m+1) (gE b s a p).1 (gE b s a p).2 (by omega) (r9 hb h hp ha)
   simp only[dZ]
   refine⟨by omega,by omega,?_⟩
   have:=h2.2.2
   rwa [show m+1+n=m+(n+1) by omega] at this
theorem EV{b:List Int}(hb:nh b){s:eJ}(h:c7 s){p:Int}(hp:0≤p):p≤(jK b s p).2∧(jK b s p).2≤p+60∧mM 3 (jK b s p).1:=by
 unfold jK
 split
 ·obtain⟨d,e,h1,h2⟩:=mG hb (p:=p+2) (by omega) (l:=[1,2]) (by simp) (by decide)
  have k1:=sx (b:=b) h h2 (bo b (p+1) 2) (p+3)
  simp only[e,aA]
  generalize dW b s d (bo b (p+1) 2) (p+3)=x at k1⊢
  obtain⟨d2,e2,h3,h4⟩:=mG hb (p:=x.2) (by omega) (l:=[1,1,2]) (by simp) (by decide)
  have k2:=sx (b:=b) h h4 (bo b (p+1) 2) (x.2+1)
  simp only[e2,aA]
  exact⟨by omega,by omega,⟨rfl,by simp,by simp⟩⟩
 ·have hm:=kH hb (p:=p+3) (l:=[1,2,2,3]) (by omega) (by simp)
  have hk:(dG b (p+3) [1,2,2,3]).toNat≤3:=by
   simp only[aw,b9,or_false] at hm
   omega
  have:=Iw hb h (dG b (p+3) [1,2,2,3]).toNat 0 ⟨2,fq,fq,[],[],dG b (p+1) [0,1,-1,2,3,-4],decide (bo b (p+2) 3=0)⟩ (p+4) (by omega) ⟨rfl,by simp,by simp⟩
  refine⟨by omega,by omega,this.2.2.len,?_,this.2.2.sh⟩
  have:=this.2.2.OP
  omega
def Aa(b:List Int)(s:eJ)(p:Int):Atom×Int:=
 let r:=jK b s p
 let a:=r.1
 let c:=bo b r.2 80
 if c=0 then(⟨dG b (r.2+1) [0,3,1,2],a.A,a.B,a.aP,a.times,a.bound,a.strict⟩,r.2+2) else
 if c=1 then(⟨a.kind,a.A,a.B,a.aP,a.times,dG b (r.2+1) [1001,-9223372036854775808,5],a.strict⟩,r.2+2) else
 if c=2 then(⟨a.kind,(zJ b s (r.2+1)).1,a.B,a.aP,a.times,a.bound,a.strict⟩,(zJ b s (r.2+1)).2) else
 if c=3 then(if 0<a.times.length then(⟨a.kind,a.A,a.B,a.aP,a.times.set 0 (dG b (r.2+1) [0,51,-9223372036854775808]),a.bound,a.strict⟩,r.2+2) else(a,r.2+1)) else
 if c=4 then(⟨a.kind,a.A,a.B,a.aP++[(dW b s 1 1 (r.2+1)).1],a.times,a.bound,a.strict⟩,(dW b s 1 1 (r.2+1)).2) else(a,r.2+1)
def eK(b:List Int)(atoms:List Atom):Nat→Int→Form×Int
 | 0,p=>(Fw,p)
 | d+1,p=>
   if d=0 then(.mk 1 ⟨atoms.getD (bo b p atoms.length).toNat uy,decide (bo b (p+1) 3=0)⟩ [],p+2) else
   if bo b p 4=0 then(.mk 1 ⟨atoms.getD (bo b (p+1) atoms.length).toNat uy,decide (bo b (p+2) 3=0)⟩ [],p+3) else
   let k:=dG b (p+1) [3,4,4,5,3,6,2]
   let r:=dR (fun(_:Unit) q=>eK b atoms d q) (au (cC k).toNat ()) (p+2)
   (.mk k Gx r.1,r.2)
mutual
def nodes:Form→Nat
 | .mk _ _ ks=>1+mW ks
def mW:List Form→Nat
 | []=>0
 | t::ts=>nodes t+mW ts
end
theorem DX{k:Int}(h:k=3∨k=4∨k=5∨k=6∨k=2):1≤cC k∧cC k≤2:=by
 rcases h with rfl|rfl|rfl|rfl|rfl<;>decide
theorem Ad{b:List Int}(hb:nh b){p:Int}(hp:0≤p):1≤cC (dG b p [3,4,4,5,3,6,2])∧cC (dG b p [3,4,4,5,3,6,2])≤2:=by
 have hm:=kH hb (p:=p) (l:=[3,4,4,5,3,6,2]) hp (by simp)
 simp only[aw,b9,or_false] at hm
 exact DX (by omega)
theorem xP{b:List Int}(hb:nh b){atoms:List Atom}:∀(d:Nat)(p:Int),0≤p→p≤(eK b atoms d p).2∧(eK b atoms d p).2≤p+4*(2 ^ d-1)∧(1≤d→nodes (eK b atoms d p).1+1≤2 ^ d)
 | 0,p,_=>by simp[eK]
 | d+1,p,hp=>by
   have ih:=xP (atoms:=atoms) hb d
   obtain⟨hq,hq2⟩:=two_pow_pos d
   have hN:(2:Nat) ^ (d+1)=2*2 ^ d:=by rw[Nat.pow_succ];omega
   have hN1:=bE (n:=d)
   simp only[eK]
   split
   ·simp only[nodes,mW];omega
   ·rename_i hd0
    have FQ:1≤d:=by omega
    have hd2:2≤2 ^ d:=by
     have:=bJ (n:=2) (by omega) FQ
     omega
    split
    ·simp only[nodes,mW];omega
    ·have hk:=Ad hb (p:=p+1) (by omega)
     generalize dG b (p+1) [3,4,4,5,3,6,2]=k at hk⊢
     have key:∀(n:Nat)(q:Int),0≤q→q≤(dR (fun(_:Unit) q=>eK b atoms d q) (au n ()) q).2∧(dR (fun(_:Unit) q=>eK b atoms d q) (au n ()) q).2≤q+n*(4*(2 ^ d-1))∧mW (dR (fun(_:Unit) q=>eK b atoms d q) (au n ()) q).1+n≤n*2 ^ d:=by
      intro n
      induction n with
      | zero=>intro q hq;simp[dR,mW]
      | succ n ihn=>
        intro q hq
        obtain⟨a1,a2,a3⟩:=ih q hq
        have a3:=a3 FQ
        obtain⟨b1,b2,b3⟩:=ihn (eK b atoms d q).2 (by omega)
        simp only[List.replicate_succ,dR,mW]
        have e1:((n+1:Nat):Int)*(4*(2 ^ d-1))=n*(4*(2 ^ d-1))+4*(2 ^ d-1):=by rw[kZ,Int.add_mul];simp
        have e2:(n+1)*2 ^ d=n*2 ^ d+2 ^ d:=by rw[Nat.add_mul];omega
        omega
     obtain⟨c1,c2,c3⟩:=key (cC k).toNat (p+2) (by omega)
     have e1:((cC k).toNat:Int)*(4*(2 ^ d-1))≤2*(4*(2 ^ d-1)):=ez (by omega) (by omega)
     have e2:(cC k).toNat*2 ^ d≤2*2 ^ d:=Nat.mul_le_mul_right _ (by omega)
     simp only[nodes]
     have e3:(cC k).toNat=1∨(cC k).toNat=2:=by omega
     refine⟨by omega,by omega,fun _=>?_⟩
     rcases e3 with e3|e3<;>(rw[e3] at c3⊢;omega)
def gn(b:List Int)(s:eJ)(out:List Atom)(p:Int):List Atom×Int:=
 (if fQ s (plain (out++[(jK b s p).1])) then(if bD out (jK b s p).1<0 then out++[(jK b s p).1] else out) else out,(jK b s p).2)
def MG:Atom:=⟨1,.mk [97] [],.mk [97] [],[],[],0,false⟩
def dY(b:List Int)(s:eJ)(p:Int):List Atom×Int:=
 let r:=dZ (gn b s) (dG b p [2,3,4,5,1]).toNat [] (p+1)
 (if r.1.length=0 then r.1++[MG] else r.1,r.2)
theorem Fy{b:List Int}(hb:nh b){s:eJ}(h:c7 s):∀(n:Nat)(l:List Atom)(p:Int),0≤p→p≤(dZ (gn b s) n l p).2∧(dZ (gn b s) n l p).2≤p+n*60∧(dZ (gn b s) n l p).1.length≤l.length+n
 | 0,l,p,_=>by simp[dZ]
 | n+1,l,p,hp=>by
   have h1:=EV hb h hp
   have h2:=Fy hb h n (gn b s l p).1 (gn b s l p).2 (by simp only[gn];omega)
   have h3:(gn b s l p).1.length≤l.length+1:=by
    simp only[gn]
    repeat' split
    all_goals simp
   simp only[dZ]
   have e:(gn b s l p).2=(jK b s p).2:=rfl
   rw[e] at h2⊢
   omega
theorem v7{b:List Int}(hb:nh b){s:eJ}(h:c7 s){p:Int}(hp:0≤p):p≤(dY b s p).2∧(dY b s p).2≤p+400∧1≤(dY b s p).1.length∧(dY b s p).1.length≤10:=by
 have hm:=kH hb (p:=p) (l:=[2,3,4,5,1]) hp (by simp)
 have hk:(dG b p [2,3,4,5,1]).toNat≤5:=by
  simp only[aw,b9,or_false] at hm
  omega
 have h1:=Fy hb h (dG b p [2,3,4,5,1]).toNat [] (p+1) (by omega)
 simp only[dY]
 simp only[bH] at h1
 split
 ·rename_i h0
  simp only[ao,cq]
  omega
 ·omega
def om(b:List Int)(p:Int):eJ×Form×Int:=
 let s:=(gx b p).1
 let a:=dY b s (p+1)
 let r:=eK b a.1 (dG b a.2 [3,4,2,3,1]).toNat (a.2+1)
 (s,r.1,r.2)
theorem Kk{b:List Int}(hb:nh b){p:Int}(hp:0≤p):p≤(om b p).2.2∧(om b p).2.2≤p+500∧nodes (om b p).2.1≤20∧c7 (om b p).1:=by
 have h1:=v7 hb (s:=(gx b p).1) (lX _) (p:=p+1) (by omega)
 obtain⟨d,e,h2,h3⟩:=mG hb (p:=(dY b (gx b p).1 (p+1)).2) (by omega) (l:=[3,4,2,3,1]) (by simp) (by decide)
 have h4:=xP hb (atoms:=(dY b (gx b p).1 (p+1)).1) d ((dY b (gx b p).1 (p+1)).2+1) (by omega)
 have h5:=rm h3
 have h6:=bJ (n:=2) (by omega) h3
 simp only[om,e,aA]
 obtain⟨k1,k2,k3⟩:=h4
 have k3:=k3 h2
 exact⟨by omega,by omega,by omega,lX _⟩
def rL(b:List Int)(p:Int):eJ×Form×Int:=
 let r:=om b p
 let f:=r.2.1
 let q:=r.2.2
 let c:=bo b q 64
 if c=0 then(r.1,.mk (dG b (q+1) [0,7,1,2,3]) f.lit f.kids,q+2) else
 if c=1 then(r.1,.mk f.kind f.lit (f.kids++[f]),q+1) else
 if c=2 then(r.1,.mk f.kind ⟨(Aa b r.1 (q+1)).1,false⟩ f.kids,(Aa b r.1 (q+1)).2) else
 if c=3 then((dK b (dK b r.1 (q+1)).1 (dK b r.1 (q+1)).2).1,f,(dK b (dK b r.1 (q+1)).1 (dK b r.1 (q+1)).2).2) else(r.1,f,q+1)
def Oc(b:List Int)(n:Nat)(p:Int):List Bool×Int:=
 let r:=dR (fun(_:Unit) q=>(decide (bo b q 2=0),q+1)) (au n ()) p
 (if bo b r.2 30=0 then r.1++[true] else r.1,r.2+1)
def H3(b:List Int)(told:List Atom)(out:List Form)(p:Int):List Form×Int:=
 let r:=eK b told (dG b p [2,3,1]).toNat (p+1)
 (out++[r.1],r.2)
def HB(b:List Int)(told:List Atom):Nat→List Form→Int→List Form×Int
 | 0,l,p=>(l,p)
 | n+1,l,p=>HB b told n (l++[(eK b told 1 p).1]) (eK b told 1 p).2
def H0(b:List Int)(p:Int):eJ×List Form×Int:=
 let s:=(gx b p).1
 let a:=dY b s (p+1)
 let r:=dZ (H3 b a.1) (dG b a.2 [2,3,1,4,0]).toNat [] (a.2+1)
 let c:=bo b r.2 48
 if c=0 then(s,r.1++[(rL b (r.2+1)).2.1],(rL b (r.2+1)).2.2) else
 if c=1 then(s,(HB b a.1 (6-r.1.length) r.1 (r.2+1)).1,(HB b a.1 (6-r.1.length) r.1 (r.2+1)).2) else
 if c=2 then((dK b (dK b s (r.2+1)).1 (dK b s (r.2+1)).2).1,r.1,(dK b (dK b s (r.2+1)).1 (dK b s (r.2+1)).2).2) else(s,r.1,r.2+1)
def LW(b:List Int):List Form×List Bool:=((H0 b 0).2.1,(Oc b (aH [] (H0 b 0).2.1).length (H0 b 0).2.2).1)
end Go.Mod
