/-
  What is drawn from a code, in plain Lean: words, terms, atoms, forms. No program is walked here.
-/
import Derived.Test.YtgpjhjalfakpoaaGreatKAEa
import Derived.Test.YtgpjhjalfakpoaaGreatKADa
set_option linter.unusedVariables false
set_option linter.unusedSimpArgs false
open Bool renaming and_eq_true→ae,true_and→ay
open Int renaming toNat_natCast→aF,mul_le_mul_of_nonneg_right→dV,tmod_lt_of_pos→iU,natCast_add→kJ,tmod_nonneg→kK
open List renaming getElem?_eq_getElem→ab,getElem_mem→ai,length_append→an,replicate→ar,mem_cons→aw,getD_eq_getElem?_getD→az,mem_singleton→bU,length_nil→b8,not_mem_nil→ct,length_singleton→cN,mem_of_getElem?→dx
open Nat renaming one_le_two_pow→bC,pow_le_pow_right→bH
namespace Go.Mod
open Go.Eng
structure oa(b:List Int):Prop where
 len:b.length≤2000
 byte:∀x∈b,0≤x∧x≤255
theorem oa.getD{b:List Int}(h:oa b)(i:Nat):0≤b.getD i 0∧b.getD i 0≤255:=by
 rw[az]
 cases hx:b[i]? with
 | none=>simp
 | some x=>exact h.byte x (dx hx)
def mV(b:List Int)(p:Int):Int:=b.getD (p.tmod b.length).toNat 0*131+b.getD ((p*7+3).tmod b.length).toNat 0*1117+p*29+p.tdiv b.length*53
def bF(b:List Int)(p n:Int):Int:=
 if n<1 then 0 else if b.length=0 then 0 else
 if p<b.length then(b.getD p.toNat 0).tmod n else(Bw (mV b p) ((mV b p).tdiv 64)).tmod n
def eV(b:List Int)(p:Int)(l:List Int):Int:=l.getD (bF b p l.length).toNat 0
def ED(b:List Int)(p:Int)(l:List lp):lp:=l.getD (bF b p l.length).toNat []
theorem JC{b:List Int}(h:oa b){p:Int}(h1:0≤p)(h2:p≤1000000000)(h3:b.length≠0):0≤p.tdiv b.length∧p.tdiv b.length≤p∧0≤mV b p∧mV b p≤1000000000000:=by
 have e1:=h.getD (p.tmod b.length).toNat
 have e2:=h.getD ((p*7+3).tmod b.length).toNat
 have e3:0≤p.tdiv b.length:=Int.tdiv_nonneg h1 (Int.natCast_nonneg _)
 have e4:p.tdiv b.length≤p:=by
  rw[Int.tdiv_eq_ediv_of_nonneg h1]
  exact Int.ediv_le_self _ h1
 refine⟨e3,e4,?_,?_⟩<;>(unfold mV;omega)
theorem K0{b:List Int}(h:oa b){p n:Int}(h1:0≤p)(hn:1≤n):0≤bF b p n∧bF b p n<n:=by
 unfold bF
 rw[if_neg (by omega)]
 split
 ·omega
 ·split
  ·have:=h.getD p.toNat
   exact⟨kK _ this.1,iU _ (by omega)⟩
  ·exact⟨kK _ (JL _ _),iU _ (by omega)⟩
theorem kV{b:List Int}(h:oa b){p:Int}{n:Nat}(h1:0≤p)(hn:1≤n):∃k:Nat,bF b p n=k∧k<n:=by
 have:=K0 h (p:=p) (n:=n) h1 (by omega)
 exact⟨(bF b p n).toNat,by omega,by omega⟩
theorem mP{b:List Int}(h:oa b){p:Int}{l:List Int}(h1:0≤p)(hl:l≠[]):eV b p l∈l:=by
 have hn:1≤l.length:=by cases l with|nil=>exact(hl rfl).elim|cons=>simp
 obtain⟨k,e,hk⟩:=kV h (n:=l.length) h1 hn
 unfold eV
 rw[e,aF,az,ab hk]
 exact ai hk
theorem JR{b:List Int}(h:oa b){p:Int}{l:List lp}(h1:0≤p)(hl:l≠[]):ED b p l∈l:=by
 have hn:1≤l.length:=by cases l with|nil=>exact(hl rfl).elim|cons=>simp
 obtain⟨k,e,hk⟩:=kV h (n:=l.length) h1 hn
 unfold ED
 rw[e,aF,az,ab hk]
 exact ai hk
def dI{α β:Type}(f:α→Int→β×Int):List α→Int→List β×Int
 | [],p=>([],p)
 | a::as,p=>((f a p).1::(dI f as (f a p).2).1,(dI f as (f a p).2).2)
theorem y5{α β:Type}(f:α→Int→β×Int)(x:α):∀(as:List α)(p:Int),dI f (as++[x]) p=((dI f as p).1++[(f x (dI f as p).2).1],(f x (dI f as p).2).2)
 | [],p=>rfl
 | a::as,p=>by simp only[List.cons_append,dI,y5 f x as]
theorem yW{α β:Type}(f:α→Int→β×Int){as:List α}{i:Nat}(h:i<as.length)(p:Int):dI f (as.take (i+1)) p=((dI f (as.take i) p).1++[(f as[i] (dI f (as.take i) p).2).1],(f as[i] (dI f (as.take i) p).2).2):=by
 have e:as.take (i+1)=as.take i++[as[i]]:=by rw[List.take_add_one,ab h];rfl
 rw[e,y5]
theorem D9{α β:Type}{f:α→Int→β×Int}{c:Int}(hf:∀a p,p≤(f a p).2∧(f a p).2≤p+c):∀(as:List α)(p:Int),p≤(dI f as p).2∧(dI f as p).2≤p+as.length*c
 | [],p=>by simp[dI]
 | a::as,p=>by
   have h1:=hf a p
   have h2:=D9 hf as (f a p).2
   simp only[dI,List.length_cons]
   have:((as.length+1:Nat):Int)*c=as.length*c+c:=by rw[kJ,Int.add_mul];simp
   omega
theorem od{α β:Type}(f:α→Int→β×Int):∀(as:List α)(p:Int),(dI f as p).1.length=as.length
 | [],_=>rfl
 | a::as,p=>by simp[dI,od f as]
def ie{α:Type}(f:α→Int→α×Int):Nat→α→Int→α×Int
 | 0,a,p=>(a,p)
 | n+1,a,p=>ie f n (f a p).1 (f a p).2
def rm(k:Int):eD:=
 if k=0 then⟨[⟨[97],[],0⟩,⟨[98],[],0⟩,⟨[99],[],0⟩,⟨[102],[0],0⟩,⟨[103],[0,0],0⟩]⟩ else
 if k=1 then⟨[⟨[97],[],0⟩,⟨[98],[],0⟩,⟨[104],[0],1⟩,⟨[120],[],1⟩,⟨[121],[],1⟩]⟩ else
 if k=2 then⟨[⟨[107],[1],1⟩,⟨[120],[],1⟩,⟨[121],[],1⟩,⟨[122],[],1⟩]⟩ else
 if k=3 then⟨[⟨[97],[],0⟩,⟨[117],[1],0⟩,⟨[118],[1,0],1⟩,⟨[120],[],1⟩,⟨[121],[],1⟩]⟩ else⟨[]⟩
def vb(b:List Int)(p:Int):eD×Int:=(rm (eV b p [0,0,1,1,2,3,1,4]),p+1)
def dc(s:eD):Prop:=s.syms.length≤7∧∀x∈s.syms,x.args.length≤2∧dM x.name=true
instance(s:eD):Decidable (dc s):=by unfold dc;infer_instance
theorem qP(k:Int):dc (rm k):=by
 unfold rm
 split
 ·decide
 ·split
  ·decide
  ·split
   ·decide
   ·split<;>decide
def Ov(b:List Int)(p:Int)(x:Sym):Sym:=⟨ED b p [[],[65],[97,98,99],[122,122],[97]],x.args,x.sort⟩
def n8(b:List Int):Nat→List Sym→Int→List Sym×Int
 | 0,l,p=>(l,p)
 | n+1,l,p=>n8 b n (l++[⟨122::ED b p [[97],[98],[122]],[],0⟩]) (p+1)
def fQ(b:List Int)(s:eD)(p:Int):eD×Int:=
 if s.syms.length=0 then(s,p) else
 if 0<bF b p 8 then(s,p+1) else
 let k:=(bF b (p+1) s.syms.length).toNat
 let c:=bF b (p+2) 5
 let x:=s.syms.getD k ⟨[],[],0⟩
 if c=0 then(⟨s.syms.set k ⟨ED b (p+3) [[],[65],[97,98,99],[122,122],[97]],x.args,x.sort⟩⟩,p+4) else
 if c=1 then(⟨s.syms.set k ⟨x.name,x.args++[eV b (p+3) [0,2,-1,1]],x.sort⟩⟩,p+4) else
 if c=2 then(⟨s.syms.set k ⟨x.name,x.args,eV b (p+3) [1,2,-1,0]⟩⟩,p+4) else
 if c=3 then(⟨s.syms++[x]⟩,p+3) else
 (⟨(n8 b (8-s.syms.length) s.syms (p+3)).1⟩,(n8 b (8-s.syms.length) s.syms (p+3)).2)
theorem Ar(b:List Int):∀(n:Nat)(l:List Sym)(p:Int),(n8 b n l p).2=p+n∧(n8 b n l p).1.length=l.length+n
 | 0,_,_=>by simp[n8]
 | n+1,l,p=>by
   obtain⟨h1,h2⟩:=Ar b n (l++[⟨122::ED b p [[97],[98],[122]],[],0⟩]) (p+1)
   simp only[n8,h1,h2,an,cN]
   omega
theorem J6(b:List Int)(s:eD)(p:Int):p≤(fQ b s p).2∧(fQ b s p).2≤p+20:=by
 have h1:=(Ar b (8-s.syms.length) s.syms (p+3)).1
 unfold fQ
 simp only
 repeat' split
 all_goals(simp only[h1];omega)
def gZ(s:eD)(sort:Int)(bh:Nat):List Sym:=s.syms.filter fun x=>decide (x.sort=sort)&&(decide (1<bh)||decide (x.args.length=0))
def dN(b:List Int)(s:eD):Nat→Int→Int→Term×Int
 | 0,_,p=>(.mk [113] [],p)
 | d+1,sort,p=>
   if(gZ s sort (d+1)).length=0 then(.mk [113] [],p) else
   let x:=(gZ s sort (d+1)).getD (bF b p (gZ s sort (d+1)).length).toNat lZ
   (.mk x.name (dI (dN b s d) x.args (p+1)).1,(dI (dN b s d) x.args (p+1)).2)
theorem nL{s:eD}{sort:Int}{d:Nat}{i:Nat}(h:dc s):((gZ s sort d).getD i lZ).args.length≤2∧(i<(gZ s sort d).length→dM ((gZ s sort d).getD i lZ).name=true∧(d≤1→((gZ s sort d).getD i lZ).args=[])):=by
 rw[az]
 cases hx:(gZ s sort d)[i]? with
 | none=>simp only[Option.getD_none];exact⟨by decide,fun hi=>by rw[ab hi] at hx;cases hx⟩
 | some x=>
   simp only[Option.getD_some]
   have hm:=dx hx
   rw[gZ,List.mem_filter] at hm
   obtain⟨h1,h2⟩:=h.2 x hm.1
   refine⟨h1,fun _=>⟨h2,fun hd=>?_⟩⟩
   have:=hm.2
   simp only[ae,Bool.or_eq_true,decide_eq_true_eq] at this
   rcases this.2 with h3|h3
   ·omega
   ·exact List.eq_nil_of_length_eq_zero h3
theorem two_pow_pos(d:Nat):(1:Int)≤2 ^ d∧(2:Int) ^ (d+1)=2*2 ^ d:=by
 have h:=bC (n:=d)
 have e:(2:Int) ^ d=((2 ^ d:Nat):Int):=by simp
 exact⟨by omega,by rw[Int.pow_succ,Int.mul_comm]⟩
theorem wb{b:List Int}{s:eD}(h:dc s):∀(d:Nat)(sort p:Int),p≤(dN b s d sort p).2∧(dN b s d sort p).2≤p+(2 ^ d-1)
 | 0,_,p=>by simp[dN]
 | d+1,sort,p=>by
   have ih:=wb (b:=b) h d
   obtain⟨hp,hp2⟩:=two_pow_pos d
   simp only[dN]
   split
   ·simp only;omega
   ·have h1:=(nL (sort:=sort) (d:=d+1) (i:=(bF b p (gZ s sort (d+1)).length).toNat) h).1
    generalize (gZ s sort (d+1)).getD (bF b p (gZ s sort (d+1)).length).toNat lZ=x at h1⊢
    have h2:=D9 (f:=dN b s d) (c:=2 ^ d-1) (fun a p=>ih a p) x.args (p+1)
    have h3:(x.args.length:Int)*(2 ^ d-1)≤2*(2 ^ d-1):=dV (by omega) (by omega)
    simp only
    omega
theorem xm{d:Nat}:∀{ts:List Term},(∀t∈ts,a8 t d=true)→bL ts d=true
 | [],_=>by simp[bL]
 | t::ts,h=>by
   simp only[bL,h t (by simp),ay]
   exact xm fun u hu=>h u (by simp[hu])
theorem qd{b:List Int}(hb:oa b){s:eD}(h:dc s):∀(d:Nat)(sort p:Int),0≤p→1≤d→a8 (dN b s d sort p).1 d=true
 | 0,_,_,_,hd=>by omega
 | d+1,sort,p,hp,_=>by
   simp only[dN]
   split
   ·simp only[a8,bL,b8]
    decide
   ·rename_i n9
    have hn:1≤(gZ s sort (d+1)).length:=by omega
    obtain⟨k,e,hk⟩:=kV hb (p:=p) hp hn
    have h1:=nL (sort:=sort) (d:=d+1) (i:=k) h
    rw[e,aF]
    generalize (gZ s sort (d+1)).getD k lZ=x at h1⊢
    obtain⟨h2,h3⟩:=h1
    obtain⟨h3,h4⟩:=h3 hk
    simp only[a8,h3,ay,ae,decide_eq_true_eq]
    refine⟨by rw[od];exact h2,?_⟩
    rcases Nat.eq_zero_or_pos d with rfl|hd
    ·rw[h4 (Nat.le_refl 1)]
     simp[dI,bL]
    ·refine xm fun t ht=>?_
     have key:∀(as:List Int)(q:Int),0≤q→∀t∈(dI (dN b s d) as q).1,a8 t d=true:=by
      intro as
      induction as with
      | nil=>intro q _ t h;simp[dI] at h
      | cons a as ih=>
        intro q hq t ht
        simp only[dI,aw] at ht
        rcases ht with rfl|ht
        ·exact qd hb h d a q hq hd
        ·exact ih _ (by have:=(wb (b:=b) h d a q).1;omega) t ht
     exact key _ _ (by omega) t ht
def y3(b:List Int)(s:eD)(p:Int):Term×Int:=
 let r:=dN b s (eV b (p+1) [2,3,1,4]).toNat (bF b p 2) (p+2)
 let c:=bF b r.2 48
 if c=0 then(.mk (ED b (r.2+1) [[],[65],[97,98,99],[102]]) r.1.kids,r.2+2) else
 if c=1 then(.mk r.1.name (r.1.kids++[r.1]),r.2+1) else
 if c=2 then(.mk r.1.name (r.1.kids++[r.1,r.1]),r.2+1) else(r.1,r.2+1)
def gm(t:Term)(n:Int):List Term→List Int→Bool→List Term×List Int
 | u::us,k::ks,done=>
   let now:=!done&& !il (aB u) (aB t)
   let own:=decide (aB u≠aB t)
   let r:=gm t n us ks (done||now)
   ((if now then [t] else [])++((if own then [u] else [])++r.1),(if now then [n] else [])++((if own then [k] else [])++r.2))
 | _,_,done=>if done then([],[]) else([t],[n])
def JP(a:Atom)(t:Term)(n:Int):Atom:=⟨a.kind,eX,eX,(gm t n a.aM a.times false).1,(gm t n a.aM a.times false).2,a.bound,a.strict⟩
theorem zJ(t:Term)(n:Int):∀(us:List Term)(ks:List Int)(d:Bool),(gm t n us ks d).1.length=(gm t n us ks d).2.length∧(gm t n us ks d).1.length≤us.length+(if d then 0 else 1)
 | u::us,k::ks,d=>by
   simp only[gm]
   generalize decide (aB u≠aB t)=o
   generalize il (aB u) (aB t)=q
   have h:=zJ t n us ks (d||(!d&& !q))
   generalize gm t n us ks (d||(!d&& !q))=r at h
   cases d<;>cases q<;>cases o<;>simp at h⊢<;>omega
 | [],_,d=>by cases d<;>simp[gm]
 | _::_,[],d=>by cases d<;>simp[gm]
def gp(b:List Int)(s:eD)(a:Atom)(p:Int):Atom×Int:=
 let r:=dN b s (eV b p [1,1,2]).toNat 1 (p+1)
 (JP a r.1 (eV b r.2 [1,-1,1,-1,2,-2]),r.2+1)
def jA(b:List Int)(s:eD)(p:Int):Atom×Int:=
 if bF b p 2=0 then
  let x:=dN b s (eV b (p+2) [1,2]).toNat (bF b (p+1) 2) (p+3)
  let y:=dN b s (eV b x.2 [1,1,2]).toNat (bF b (p+1) 2) (x.2+1)
  (⟨1,x.1,y.1,[],[],0,false⟩,y.2)
 else ie (gp b s) (eV b (p+3) [1,2,2,3]).toNat ⟨2,eX,eX,[],[],eV b (p+1) [0,1,-1,2,3,-4],decide (bF b (p+2) 3=0)⟩ (p+4)
theorem Bo{P:Term→Prop}{t:Term}{n:Int}(ht:P t):∀(us:List Term)(ks:List Int)(d:Bool),(∀u∈us,P u)→∀u∈(gm t n us ks d).1,P u
 | u::us,k::ks,d,h,v,hv=>by
   have ih:=Bo (n:=n) ht us ks (d||(!d&& !il (aB u) (aB t))) (fun w hw=>h w (by simp[hw]))
   simp only[gm,List.mem_append] at hv
   rcases hv with hv|hv|hv
   ·split at hv
    ·simp only[bU] at hv;rw[hv];exact ht
    ·simp at hv
   ·split at hv
    ·simp only[bU] at hv;rw[hv];exact h u (by simp)
    ·simp at hv
   ·exact ih v hv
 | [],_,d,_,v,hv=>by
   cases d<;>simp[gm] at hv
   rw[hv];exact ht
 | _::_,[],d,_,v,hv=>by
   cases d<;>simp[gm] at hv
   rw[hv];exact ht
theorem zd{t:Term}:∀{d e:Nat},d≤e→a8 t d=true→a8 t e=true:=by
 intro d e h
 induction e with
 | zero=>intro ht;obtain rfl:d=0:=by omega
         exact ht
 | succ e ih=>
   intro ht
   rcases Nat.lt_or_ge d (e+1) with h1|h1
   ·exact tu t e (ih (by omega) ht)
   ·obtain rfl:d=e+1:=by omega
    exact ht
structure mj(m:Nat)(a:Atom):Prop where
 len:a.aM.length=a.times.length
 NR:a.aM.length≤m
 sh:∀t∈a.aM,a8 t 4=true
theorem FL{m:Nat}{a:Atom}{t:Term}(h:mj m a)(ht:a8 t 4=true)(n:Int):mj (m+1) (JP a t n):=by
 obtain⟨h1,h2⟩:=zJ t n a.aM a.times false
 exact⟨h1,by have:=h.NR;simp only[Bool.false_eq_true,if_false] at h2;simp only[JP];omega,Bo (P:=fun t=>a8 t 4=true) ht _ _ _ h.sh⟩
theorem nI{b:List Int}(hb:oa b){p:Int}(h1:0≤p){l:List Int}(hl:l≠[])(hd:∀x∈l,1≤x∧x≤4):∃d:Nat,eV b p l=d∧1≤d∧d≤4:=by
 have:=hd _ (mP hb h1 hl)
 exact⟨(eV b p l).toNat,by omega,by omega,by omega⟩
theorem wF{d e:Nat}(h:d≤e):(2:Int) ^ d≤2 ^ e:=by
 have:=bH (n:=2) (by omega) h
 have e1:(2:Int) ^ d=((2 ^ d:Nat):Int):=by simp
 have e2:(2:Int) ^ e=((2 ^ e:Nat):Int):=by simp
 rw[e1,e2]
 exact Int.ofNat_le.2 this
theorem se{b:List Int}{s:eD}(h:dc s){d:Nat}(hd:d≤4)(sort p:Int):p≤(dN b s d sort p).2∧(dN b s d sort p).2≤p+15:=by
 have h1:=wb (b:=b) h d sort p
 have h2:=wF hd
 omega
theorem yX{b:List Int}(hb:oa b){s:eD}(h:dc s){a:Atom}{p:Int}(hp:0≤p):p≤(gp b s a p).2∧(gp b s a p).2≤p+17:=by
 obtain⟨d,e,h1,h2⟩:=nI hb hp (l:=[1,1,2]) (by simp) (by decide)
 have:=se (b:=b) h h2 1 (p+1)
 simp only[gp,e,aF]
 omega
theorem ri{b:List Int}(hb:oa b){s:eD}(h:dc s){m:Nat}{a:Atom}{p:Int}(hp:0≤p)(ha:mj m a):mj (m+1) (gp b s a p).1:=by
 obtain⟨d,e,h1,h2⟩:=nI hb hp (l:=[1,1,2]) (by simp) (by decide)
 simp only[gp,e,aF]
 exact FL ha (zd h2 (qd hb h d 1 (p+1) (by omega) h1)) _
theorem Im{b:List Int}(hb:oa b){s:eD}(h:dc s):∀(n m:Nat)(a:Atom)(p:Int),0≤p→mj m a→p≤(ie (gp b s) n a p).2∧(ie (gp b s) n a p).2≤p+n*17∧mj (m+n) (ie (gp b s) n a p).1
 | 0,m,a,p,hp,ha=>by simpa[ie] using ha
 | n+1,m,a,p,hp,ha=>by
   have h1:=yX hb h (a:=a) hp
   have h2:=Im hb h n (m+1) (gp b s a p).1 (gp b s a p).2 (by omega) (ri hb h hp ha)
   simp only[ie]
   refine⟨by omega,by omega,?_⟩
   have:=h2.2.2
   rwa [show m+1+n=m+(n+1) by omega] at this
theorem CX{b:List Int}(hb:oa b){s:eD}(h:dc s){p:Int}(hp:0≤p):p≤(jA b s p).2∧(jA b s p).2≤p+60∧mj 3 (jA b s p).1:=by
 unfold jA
 split
 ·obtain⟨d,e,h1,h2⟩:=nI hb (p:=p+2) (by omega) (l:=[1,2]) (by simp) (by decide)
  have k1:=se (b:=b) h h2 (bF b (p+1) 2) (p+3)
  simp only[e,aF]
  generalize dN b s d (bF b (p+1) 2) (p+3)=x at k1⊢
  obtain⟨d2,e2,h3,h4⟩:=nI hb (p:=x.2) (by omega) (l:=[1,1,2]) (by simp) (by decide)
  have k2:=se (b:=b) h h4 (bF b (p+1) 2) (x.2+1)
  simp only[e2,aF]
  exact⟨by omega,by omega,⟨rfl,by simp,by simp⟩⟩
 ·have hm:=mP hb (p:=p+3) (l:=[1,2,2,3]) (by omega) (by simp)
  have hk:(eV b (p+3) [1,2,2,3]).toNat≤3:=by
   simp only[aw,ct,or_false] at hm
   omega
  have:=Im hb h (eV b (p+3) [1,2,2,3]).toNat 0 ⟨2,eX,eX,[],[],eV b (p+1) [0,1,-1,2,3,-4],decide (bF b (p+2) 3=0)⟩ (p+4) (by omega) ⟨rfl,by simp,by simp⟩
  refine⟨by omega,by omega,this.2.2.len,?_,this.2.2.sh⟩
  have:=this.2.2.NR
  omega
def yZ(b:List Int)(s:eD)(p:Int):Atom×Int:=
 let r:=jA b s p
 let a:=r.1
 let c:=bF b r.2 80
 if c=0 then(⟨eV b (r.2+1) [0,3,1,2],a.A,a.B,a.aM,a.times,a.bound,a.strict⟩,r.2+2) else
 if c=1 then(⟨a.kind,a.A,a.B,a.aM,a.times,eV b (r.2+1) [1001,-9223372036854775808,5],a.strict⟩,r.2+2) else
 if c=2 then(⟨a.kind,(y3 b s (r.2+1)).1,a.B,a.aM,a.times,a.bound,a.strict⟩,(y3 b s (r.2+1)).2) else
 if c=3 then(if 0<a.times.length then(⟨a.kind,a.A,a.B,a.aM,a.times.set 0 (eV b (r.2+1) [0,51,-9223372036854775808]),a.bound,a.strict⟩,r.2+2) else(a,r.2+1)) else
 if c=4 then(⟨a.kind,a.A,a.B,a.aM++[(dN b s 1 1 (r.2+1)).1],a.times,a.bound,a.strict⟩,(dN b s 1 1 (r.2+1)).2) else(a,r.2+1)
def fg(b:List Int)(atoms:List Atom):Nat→Int→Form×Int
 | 0,p=>(NI,p)
 | d+1,p=>
   if d=0 then(.mk 1 ⟨atoms.getD (bF b p atoms.length).toNat tP,decide (bF b (p+1) 3=0)⟩ [],p+2) else
   if bF b p 4=0 then(.mk 1 ⟨atoms.getD (bF b (p+1) atoms.length).toNat tP,decide (bF b (p+2) 3=0)⟩ [],p+3) else
   let k:=eV b (p+1) [3,4,4,5,3,6,2]
   let r:=dI (fun(_:Unit) q=>fg b atoms d q) (ar (cw k).toNat ()) (p+2)
   (.mk k Jv r.1,r.2)
mutual
def nodes:Form→Nat
 | .mk _ _ ks=>1+mC ks
def mC:List Form→Nat
 | []=>0
 | t::ts=>nodes t+mC ts
end
theorem Dd{k:Int}(h:k=3∨k=4∨k=5∨k=6∨k=2):1≤cw k∧cw k≤2:=by
 rcases h with rfl|rfl|rfl|rfl|rfl<;>decide
theorem y6{b:List Int}(hb:oa b){p:Int}(hp:0≤p):1≤cw (eV b p [3,4,4,5,3,6,2])∧cw (eV b p [3,4,4,5,3,6,2])≤2:=by
 have hm:=mP hb (p:=p) (l:=[3,4,4,5,3,6,2]) hp (by simp)
 simp only[aw,ct,or_false] at hm
 exact Dd (by omega)
theorem Ej{b:List Int}(hb:oa b){atoms:List Atom}:∀(d:Nat)(p:Int),0≤p→p≤(fg b atoms d p).2∧(fg b atoms d p).2≤p+4*(2 ^ d-1)∧(1≤d→nodes (fg b atoms d p).1+1≤2 ^ d)
 | 0,p,_=>by simp[fg]
 | d+1,p,hp=>by
   have ih:=Ej (atoms:=atoms) hb d
   obtain⟨hq,hq2⟩:=two_pow_pos d
   have hN:(2:Nat) ^ (d+1)=2*2 ^ d:=by rw[Nat.pow_succ];omega
   have hN1:=bC (n:=d)
   simp only[fg]
   split
   ·simp only[nodes,mC];omega
   ·rename_i hd0
    have Fa:1≤d:=by omega
    have hd2:2≤2 ^ d:=by
     have:=bH (n:=2) (by omega) Fa
     omega
    split
    ·simp only[nodes,mC];omega
    ·have hk:=y6 hb (p:=p+1) (by omega)
     generalize eV b (p+1) [3,4,4,5,3,6,2]=k at hk⊢
     have key:∀(n:Nat)(q:Int),0≤q→q≤(dI (fun(_:Unit) q=>fg b atoms d q) (ar n ()) q).2∧(dI (fun(_:Unit) q=>fg b atoms d q) (ar n ()) q).2≤q+n*(4*(2 ^ d-1))∧mC (dI (fun(_:Unit) q=>fg b atoms d q) (ar n ()) q).1+n≤n*2 ^ d:=by
      intro n
      induction n with
      | zero=>intro q hq;simp[dI,mC]
      | succ n ihn=>
        intro q hq
        obtain⟨a1,a2,a3⟩:=ih q hq
        have a3:=a3 Fa
        obtain⟨b1,b2,b3⟩:=ihn (fg b atoms d q).2 (by omega)
        simp only[List.replicate_succ,dI,mC]
        have e1:((n+1:Nat):Int)*(4*(2 ^ d-1))=n*(4*(2 ^ d-1))+4*(2 ^ d-1):=by rw[kJ,Int.add_mul];simp
        have e2:(n+1)*2 ^ d=n*2 ^ d+2 ^ d:=by rw[Nat.add_mul];omega
        omega
     obtain⟨c1,c2,c3⟩:=key (cw k).toNat (p+2) (by omega)
     have e1:((cw k).toNat:Int)*(4*(2 ^ d-1))≤2*(4*(2 ^ d-1)):=dV (by omega) (by omega)
     have e2:(cw k).toNat*2 ^ d≤2*2 ^ d:=Nat.mul_le_mul_right _ (by omega)
     simp only[nodes]
     have e3:(cw k).toNat=1∨(cw k).toNat=2:=by omega
     refine⟨by omega,by omega,fun _=>?_⟩
     rcases e3 with e3|e3<;>(rw[e3] at c3⊢;omega)
def ga(b:List Int)(s:eD)(out:List Atom)(p:Int):List Atom×Int:=
 (if fN s (plain (out++[(jA b s p).1])) then(if bA out (jA b s p).1<0 then out++[(jA b s p).1] else out) else out,(jA b s p).2)
def L5:Atom:=⟨1,.mk [97] [],.mk [97] [],[],[],0,false⟩
def lN(b:List Int)(s:eD)(p:Int):List Atom×Int:=
 let r:=ie (ga b s) (eV b p [2,3,4,5,1]).toNat [] (p+1)
 (if r.1.length=0 then r.1++[L5] else r.1,r.2)
theorem Ez{b:List Int}(hb:oa b){s:eD}(h:dc s):∀(n:Nat)(l:List Atom)(p:Int),0≤p→p≤(ie (ga b s) n l p).2∧(ie (ga b s) n l p).2≤p+n*60∧(ie (ga b s) n l p).1.length≤l.length+n
 | 0,l,p,_=>by simp[ie]
 | n+1,l,p,hp=>by
   have h1:=CX hb h hp
   have h2:=Ez hb h n (ga b s l p).1 (ga b s l p).2 (by simp only[ga];omega)
   have h3:(ga b s l p).1.length≤l.length+1:=by
    simp only[ga]
    repeat' split
    all_goals simp
   simp only[ie]
   have e:(ga b s l p).2=(jA b s p).2:=rfl
   rw[e] at h2⊢
   omega
theorem EM{b:List Int}(hb:oa b){s:eD}(h:dc s){p:Int}(hp:0≤p):p≤(lN b s p).2∧(lN b s p).2≤p+400∧1≤(lN b s p).1.length∧(lN b s p).1.length≤10:=by
 have hm:=mP hb (p:=p) (l:=[2,3,4,5,1]) hp (by simp)
 have hk:(eV b p [2,3,4,5,1]).toNat≤5:=by
  simp only[aw,ct,or_false] at hm
  omega
 have h1:=Ez hb h (eV b p [2,3,4,5,1]).toNat [] (p+1) (by omega)
 simp only[lN]
 simp only[b8] at h1
 split
 ·rename_i h0
  simp only[an,cN]
  omega
 ·omega
def nP(b:List Int)(p:Int):eD×Form×Int:=
 let s:=(vb b p).1
 let a:=lN b s (p+1)
 let r:=fg b a.1 (eV b a.2 [3,4,2,3,1]).toNat (a.2+1)
 (s,r.1,r.2)
theorem KV{b:List Int}(hb:oa b){p:Int}(hp:0≤p):p≤(nP b p).2.2∧(nP b p).2.2≤p+500∧nodes (nP b p).2.1≤20∧dc (nP b p).1:=by
 have h1:=EM hb (s:=(vb b p).1) (qP _) (p:=p+1) (by omega)
 obtain⟨d,e,h2,h3⟩:=nI hb (p:=(lN b (vb b p).1 (p+1)).2) (by omega) (l:=[3,4,2,3,1]) (by simp) (by decide)
 have h4:=Ej hb (atoms:=(lN b (vb b p).1 (p+1)).1) d ((lN b (vb b p).1 (p+1)).2+1) (by omega)
 have h5:=wF h3
 have h6:=bH (n:=2) (by omega) h3
 simp only[nP,e,aF]
 obtain⟨k1,k2,k3⟩:=h4
 have k3:=k3 h2
 exact⟨by omega,by omega,by omega,qP _⟩
def pK(b:List Int)(p:Int):eD×Form×Int:=
 let r:=nP b p
 let f:=r.2.1
 let q:=r.2.2
 let c:=bF b q 64
 if c=0 then(r.1,.mk (eV b (q+1) [0,7,1,2,3]) f.lit f.kids,q+2) else
 if c=1 then(r.1,.mk f.kind f.lit (f.kids++[f]),q+1) else
 if c=2 then(r.1,.mk f.kind ⟨(yZ b r.1 (q+1)).1,false⟩ f.kids,(yZ b r.1 (q+1)).2) else
 if c=3 then((fQ b (fQ b r.1 (q+1)).1 (fQ b r.1 (q+1)).2).1,f,(fQ b (fQ b r.1 (q+1)).1 (fQ b r.1 (q+1)).2).2) else(r.1,f,q+1)
def Ny(b:List Int)(n:Nat)(p:Int):List Bool×Int:=
 let r:=dI (fun(_:Unit) q=>(decide (bF b q 2=0),q+1)) (ar n ()) p
 (if bF b r.2 30=0 then r.1++[true] else r.1,r.2+1)
def Iu(b:List Int)(told:List Atom)(out:List Form)(p:Int):List Form×Int:=
 let r:=fg b told (eV b p [2,3,1]).toNat (p+1)
 (out++[r.1],r.2)
def I1(b:List Int)(told:List Atom):Nat→List Form→Int→List Form×Int
 | 0,l,p=>(l,p)
 | n+1,l,p=>I1 b told n (l++[(fg b told 1 p).1]) (fg b told 1 p).2
def I8(b:List Int)(p:Int):eD×List Form×Int:=
 let s:=(vb b p).1
 let a:=lN b s (p+1)
 let r:=ie (Iu b a.1) (eV b a.2 [2,3,1,4,0]).toNat [] (a.2+1)
 let c:=bF b r.2 48
 if c=0 then(s,r.1++[(pK b (r.2+1)).2.1],(pK b (r.2+1)).2.2) else
 if c=1 then(s,(I1 b a.1 (6-r.1.length) r.1 (r.2+1)).1,(I1 b a.1 (6-r.1.length) r.1 (r.2+1)).2) else
 if c=2 then((fQ b (fQ b s (r.2+1)).1 (fQ b s (r.2+1)).2).1,r.1,(fQ b (fQ b s (r.2+1)).1 (fQ b s (r.2+1)).2).2) else(s,r.1,r.2+1)
def Lp(b:List Int):List Form×List Bool:=((I8 b 0).2.1,(Ny b (aS [] (I8 b 0).2.1).length (I8 b 0).2.2).1)
end Go.Mod
