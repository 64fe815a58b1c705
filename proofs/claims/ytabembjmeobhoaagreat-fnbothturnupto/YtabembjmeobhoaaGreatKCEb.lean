/-
  What is drawn from a code, in plain Lean: words, terms, atoms, forms. No program is walked here.
-/
import Derived.Test.YtabembjmeobhoaaGreatKCDa
import Derived.Test.YtabembjmeobhoaaGreatKCEa
import Derived.Lib.SlicesCompact
set_option linter.unusedVariables false
set_option linter.unusedSimpArgs false
open Bool renaming and_eq_true→ai,true_and→aE
open Int renaming toNat_natCast→bn,tmod_lt_of_pos→n9
open List renaming getElem?_eq_getElem→af,getElem_mem→ak,mem_cons→ax,getD_eq_getElem?_getD→ay,replicate→aU,mem_of_getElem?→cW,mem_singleton→du
namespace Go.Mod
open Go.Eng
structure yV(b:List Int):Prop where
 len:b.length≤2000
 byte:∀x∈b,0≤x∧x≤255
theorem yV.getD{b:List Int}(h:yV b)(i:Nat):0≤b.getD i 0∧b.getD i 0≤255:=by
 rw[ay]
 cases hx:b[i]? with
 | none=>simp
 | some x=>exact h.byte x (cW hx)
def ui(b:List Int)(p:Int):Int:=b.getD (p.tmod b.length).toNat 0*131+b.getD ((p*7+3).tmod b.length).toNat 0*1117+p*29+p.tdiv b.length*53
def dp(b:List Int)(p n:Int):Int:=
 if n<1 then 0 else if b.length=0 then 0 else
 if p<b.length then(b.getD p.toNat 0).tmod n else(Ov (ui b p) ((ui b p).tdiv 64)).tmod n
def j5(b:List Int)(p:Int)(l:List Int):Int:=l.getD (dp b p l.length).toNat 0
def SD(b:List Int)(p:Int)(l:List nE):nE:=l.getD (dp b p l.length).toNat []
theorem X9{b:List Int}(h:yV b){p:Int}(h1:0≤p)(h2:p≤1000000000)(h3:b.length≠0):0≤p.tdiv b.length∧p.tdiv b.length≤p∧0≤ui b p∧ui b p≤1000000000000:=by
 have e1:=h.getD (p.tmod b.length).toNat
 have e2:=h.getD ((p*7+3).tmod b.length).toNat
 have e3:0≤p.tdiv b.length:=Int.tdiv_nonneg h1 (Int.natCast_nonneg _)
 have e4:p.tdiv b.length≤p:=by
  rw[Int.tdiv_eq_ediv_of_nonneg h1]
  exact Int.ediv_le_self _ h1
 refine⟨e3,e4,?_,?_⟩<;>(unfold ui;omega)
theorem YT{b:List Int}(h:yV b){p n:Int}(h1:0≤p)(hn:1≤n):0≤dp b p n∧dp b p n<n:=by
 unfold dp
 rw[if_neg (by omega)]
 split
 ·omega
 ·split
  ·have:=h.getD p.toNat
   exact⟨Int.tmod_nonneg _ this.1,n9 _ (by omega)⟩
  ·exact⟨Int.tmod_nonneg _ (YM _ _),n9 _ (by omega)⟩
theorem vE{b:List Int}(h:yV b){p:Int}{n:Nat}(h1:0≤p)(hn:1≤n):∃k:Nat,dp b p n=k∧k<n:=by
 have:=YT h (p:=p) (n:=n) h1 (by omega)
 exact⟨(dp b p n).toNat,by omega,by omega⟩
theorem xf{b:List Int}(h:yV b){p:Int}{l:List Int}(h1:0≤p)(hl:l≠[]):j5 b p l∈l:=by
 have hn:1≤l.length:=by cases l with|nil=>exact(hl rfl).elim|cons=>simp
 obtain⟨k,e,hk⟩:=vE h (n:=l.length) h1 hn
 unfold j5
 rw[e,bn,ay,af hk]
 exact ak hk
theorem XG{b:List Int}(h:yV b){p:Int}{l:List nE}(h1:0≤p)(hl:l≠[]):SD b p l∈l:=by
 have hn:1≤l.length:=by cases l with|nil=>exact(hl rfl).elim|cons=>simp
 obtain⟨k,e,hk⟩:=vE h (n:=l.length) h1 hn
 unfold SD
 rw[e,bn,ay,af hk]
 exact ak hk
def mF{α β:Type}(f:α→Int→β×Int):List α→Int→List β×Int
 | [],p=>([],p)
 | a::as,p=>((f a p).1::(mF f as (f a p).2).1,(mF f as (f a p).2).2)
theorem JJ{α β:Type}(f:α→Int→β×Int)(x:α):∀(as:List α)(p:Int),mF f (as++[x]) p=((mF f as p).1++[(f x (mF f as p).2).1],(f x (mF f as p).2).2)
 | [],p=>rfl
 | a::as,p=>by simp only[List.cons_append,mF,JJ f x as]
theorem S3{α β:Type}(f:α→Int→β×Int){as:List α}{i:Nat}(h:i<as.length)(p:Int):mF f (as.take (i+1)) p=((mF f (as.take i) p).1++[(f as[i] (mF f (as.take i) p).2).1],(f as[i] (mF f (as.take i) p).2).2):=by
 have e:as.take (i+1)=as.take i++[as[i]]:=by rw[List.take_add_one,af h];rfl
 rw[e,JJ]
theorem QK{α β:Type}{f:α→Int→β×Int}{c:Int}(hf:∀a p,p≤(f a p).2∧(f a p).2≤p+c):∀(as:List α)(p:Int),p≤(mF f as p).2∧(mF f as p).2≤p+as.length*c
 | [],p=>by simp[mF]
 | a::as,p=>by
   have h1:=hf a p
   have h2:=QK hf as (f a p).2
   simp only[mF,List.length_cons]
   have:((as.length+1:Nat):Int)*c=as.length*c+c:=by rw[Int.natCast_add,Int.add_mul];simp
   omega
theorem Bd{α β:Type}(f:α→Int→β×Int):∀(as:List α)(p:Int),(mF f as p).1.length=as.length
 | [],_=>rfl
 | a::as,p=>by simp[mF,Bd f as]
def uq{α:Type}(f:α→Int→α×Int):Nat→α→Int→α×Int
 | 0,a,p=>(a,p)
 | n+1,a,p=>uq f n (f a p).1 (f a p).2
def Cn(k:Int):dI:=
 if k=0 then⟨[⟨[97],[],0⟩,⟨[98],[],0⟩,⟨[99],[],0⟩,⟨[102],[0],0⟩,⟨[103],[0,0],0⟩]⟩ else
 if k=1 then⟨[⟨[97],[],0⟩,⟨[98],[],0⟩,⟨[104],[0],1⟩,⟨[120],[],1⟩,⟨[121],[],1⟩]⟩ else
 if k=2 then⟨[⟨[107],[1],1⟩,⟨[120],[],1⟩,⟨[121],[],1⟩,⟨[122],[],1⟩]⟩ else
 if k=3 then⟨[⟨[97],[],0⟩,⟨[117],[1],0⟩,⟨[118],[1,0],1⟩,⟨[120],[],1⟩,⟨[121],[],1⟩]⟩ else⟨[]⟩
def wM(b:List Int)(p:Int):dI×Int:=(Cn (j5 b p [0,0,1,1,2,3,1,4]),p+1)
def fE(s:dI):Prop:=s.syms.length≤7∧∀x∈s.syms,x.args.length≤2∧fI x.name=true
instance(s:dI):Decidable (fE s):=by unfold fE;infer_instance
theorem GI(k:Int):fE (Cn k):=by
 unfold Cn
 split
 ·decide
 ·split
  ·decide
  ·split
   ·decide
   ·split<;>decide
def acE(b:List Int)(p:Int)(x:Sym):Sym:=⟨SD b p [[],[65],[97,98,99],[122,122],[97]],x.args,x.sort⟩
def wD(b:List Int):Nat→List Sym→Int→List Sym×Int
 | 0,l,p=>(l,p)
 | n+1,l,p=>wD b n (l++[⟨122::SD b p [[97],[98],[122]],[],0⟩]) (p+1)
def jr(b:List Int)(s:dI)(p:Int):dI×Int:=
 if s.syms.length=0 then(s,p) else
 if 0<dp b p 8 then(s,p+1) else
 let k:=(dp b (p+1) s.syms.length).toNat
 let c:=dp b (p+2) 5
 let x:=s.syms.getD k ⟨[],[],0⟩
 if c=0 then(⟨s.syms.set k ⟨SD b (p+3) [[],[65],[97,98,99],[122,122],[97]],x.args,x.sort⟩⟩,p+4) else
 if c=1 then(⟨s.syms.set k ⟨x.name,x.args++[j5 b (p+3) [0,2,-1,1]],x.sort⟩⟩,p+4) else
 if c=2 then(⟨s.syms.set k ⟨x.name,x.args,j5 b (p+3) [1,2,-1,0]⟩⟩,p+4) else
 if c=3 then(⟨s.syms++[x]⟩,p+3) else
 (⟨(wD b (8-s.syms.length) s.syms (p+3)).1⟩,(wD b (8-s.syms.length) s.syms (p+3)).2)
theorem Mw(b:List Int):∀(n:Nat)(l:List Sym)(p:Int),(wD b n l p).2=p+n∧(wD b n l p).1.length=l.length+n
 | 0,_,_=>by simp[wD]
 | n+1,l,p=>by
   obtain⟨h1,h2⟩:=Mw b n (l++[⟨122::SD b p [[97],[98],[122]],[],0⟩]) (p+1)
   simp only[wD,h1,h2,List.length_append,List.length_singleton]
   omega
theorem Yw(b:List Int)(s:dI)(p:Int):p≤(jr b s p).2∧(jr b s p).2≤p+20:=by
 have h1:=(Mw b (8-s.syms.length) s.syms (p+3)).1
 unfold jr
 simp only
 repeat' split
 all_goals(simp only[h1];omega)
def mW(s:dI)(sort:Int)(bt:Nat):List Sym:=s.syms.filter fun x=>decide (x.sort=sort)&&(decide (1<bt)||decide (x.args.length=0))
def ik(b:List Int)(s:dI):Nat→Int→Int→Term×Int
 | 0,_,p=>(.mk [113] [],p)
 | d+1,sort,p=>
   if(mW s sort (d+1)).length=0 then(.mk [113] [],p) else
   let x:=(mW s sort (d+1)).getD (dp b p (mW s sort (d+1)).length).toNat sX
   (.mk x.name (mF (ik b s d) x.args (p+1)).1,(mF (ik b s d) x.args (p+1)).2)
theorem ve{s:dI}{sort:Int}{d:Nat}{i:Nat}(h:fE s):((mW s sort d).getD i sX).args.length≤2∧(i<(mW s sort d).length→fI ((mW s sort d).getD i sX).name=true∧(d≤1→((mW s sort d).getD i sX).args=[])):=by
 rw[ay]
 cases hx:(mW s sort d)[i]? with
 | none=>simp only[Option.getD_none];exact⟨by decide,fun hi=>by rw[af hi] at hx;cases hx⟩
 | some x=>
   simp only[Option.getD_some]
   have hm:=cW hx
   rw[mW,List.mem_filter] at hm
   obtain⟨h1,h2⟩:=h.2 x hm.1
   refine⟨h1,fun _=>⟨h2,fun hd=>?_⟩⟩
   have:=hm.2
   simp only[ai,Bool.or_eq_true,decide_eq_true_eq] at this
   rcases this.2 with h3|h3
   ·omega
   ·exact List.eq_nil_of_length_eq_zero h3
theorem two_pow_pos(d:Nat):(1:Int)≤2 ^ d∧(2:Int) ^ (d+1)=2*2 ^ d:=by
 have h:=Nat.one_le_two_pow (n:=d)
 have e:(2:Int) ^ d=((2 ^ d:Nat):Int):=by simp
 exact⟨by omega,by rw[Int.pow_succ,Int.mul_comm]⟩
theorem F7{b:List Int}{s:dI}(h:fE s):∀(d:Nat)(sort p:Int),p≤(ik b s d sort p).2∧(ik b s d sort p).2≤p+(2 ^ d-1)
 | 0,_,p=>by simp[ik]
 | d+1,sort,p=>by
   have ih:=F7 (b:=b) h d
   obtain⟨hp,hp2⟩:=two_pow_pos d
   simp only[ik]
   split
   ·simp only;omega
   ·have h1:=(ve (sort:=sort) (d:=d+1) (i:=(dp b p (mW s sort (d+1)).length).toNat) h).1
    generalize (mW s sort (d+1)).getD (dp b p (mW s sort (d+1)).length).toNat sX=x at h1⊢
    have h2:=QK (f:=ik b s d) (c:=2 ^ d-1) (fun a p=>ih a p) x.args (p+1)
    have h3:(x.args.length:Int)*(2 ^ d-1)≤2*(2 ^ d-1):=Int.mul_le_mul_of_nonneg_right (by omega) (by omega)
    simp only
    omega
theorem G0{d:Nat}:∀{ts:List Term},(∀t∈ts,bN t d=true)→cL ts d=true
 | [],_=>by simp[cL]
 | t::ts,h=>by
   simp only[cL,h t (by simp),aE]
   exact G0 fun u hu=>h u (by simp[hu])
theorem Aj{b:List Int}(hb:yV b){s:dI}(h:fE s):∀(d:Nat)(sort p:Int),0≤p→1≤d→bN (ik b s d sort p).1 d=true
 | 0,_,_,_,hd=>by omega
 | d+1,sort,p,hp,_=>by
   simp only[ik]
   split
   ·simp only[bN,cL,List.length_nil]
    decide
   ·rename_i jD
    have hn:1≤(mW s sort (d+1)).length:=by omega
    obtain⟨k,e,hk⟩:=vE hb (p:=p) hp hn
    have h1:=ve (sort:=sort) (d:=d+1) (i:=k) h
    rw[e,bn]
    generalize (mW s sort (d+1)).getD k sX=x at h1⊢
    obtain⟨h2,h3⟩:=h1
    obtain⟨h3,h4⟩:=h3 hk
    simp only[bN,h3,aE,ai,decide_eq_true_eq]
    refine⟨by rw[Bd];exact h2,?_⟩
    rcases Nat.eq_zero_or_pos d with rfl|hd
    ·rw[h4 (Nat.le_refl 1)]
     simp[mF,cL]
    ·refine G0 fun t ht=>?_
     have key:∀(as:List Int)(q:Int),0≤q→∀t∈(mF (ik b s d) as q).1,bN t d=true:=by
      intro as
      induction as with
      | nil=>intro q _ t h;simp[mF] at h
      | cons a as ih=>
        intro q hq t ht
        simp only[mF,ax] at ht
        rcases ht with rfl|ht
        ·exact Aj hb h d a q hq hd
        ·exact ih _ (by have:=(F7 (b:=b) h d a q).1;omega) t ht
     exact key _ _ (by omega) t ht
def Ju(b:List Int)(s:dI)(p:Int):Term×Int:=
 let r:=ik b s (j5 b (p+1) [2,3,1,4]).toNat (dp b p 2) (p+2)
 let c:=dp b r.2 48
 if c=0 then(.mk (SD b (r.2+1) [[],[65],[97,98,99],[102]]) r.1.kids,r.2+2) else
 if c=1 then(.mk r.1.name (r.1.kids++[r.1]),r.2+1) else
 if c=2 then(.mk r.1.name (r.1.kids++[r.1,r.1]),r.2+1) else(r.1,r.2+1)
def lx(t:Term)(n:Int):List Term→List Int→Bool→List Term×List Int
 | u::us,k::ks,done=>
   let now:=!done&& !gC (aO u) (aO t)
   let own:=decide (aO u≠aO t)
   let r:=lx t n us ks (done||now)
   ((if now then [t] else [])++((if own then [u] else [])++r.1),(if now then [n] else [])++((if own then [k] else [])++r.2))
 | _,_,done=>if done then([],[]) else([t],[n])
def YF(a:Atom)(t:Term)(n:Int):Atom:=⟨a.kind,aL,aL,(lx t n a.nums a.times false).1,(lx t n a.nums a.times false).2,a.bound,a.strict⟩
theorem J7(t:Term)(n:Int):∀(us:List Term)(ks:List Int)(d:Bool),(lx t n us ks d).1.length=(lx t n us ks d).2.length∧(lx t n us ks d).1.length≤us.length+(if d then 0 else 1)
 | u::us,k::ks,d=>by
   simp only[lx]
   generalize decide (aO u≠aO t)=o
   generalize gC (aO u) (aO t)=q
   have h:=J7 t n us ks (d||(!d&& !q))
   generalize lx t n us ks (d||(!d&& !q))=r at h
   cases d<;>cases q<;>cases o<;>simp at h⊢<;>omega
 | [],_,d=>by cases d<;>simp[lx]
 | _::_,[],d=>by cases d<;>simp[lx]
def lG(b:List Int)(s:dI)(a:Atom)(p:Int):Atom×Int:=
 let r:=ik b s (j5 b p [1,1,2]).toNat 1 (p+1)
 (YF a r.1 (j5 b r.2 [1,-1,1,-1,2,-2]),r.2+1)
def nT(b:List Int)(s:dI)(p:Int):Atom×Int:=
 if dp b p 2=0 then
  let x:=ik b s (j5 b (p+2) [1,2]).toNat (dp b (p+1) 2) (p+3)
  let y:=ik b s (j5 b x.2 [1,1,2]).toNat (dp b (p+1) 2) (x.2+1)
  (⟨1,x.1,y.1,[],[],0,false⟩,y.2)
 else uq (lG b s) (j5 b (p+3) [1,2,2,3]).toNat ⟨2,aL,aL,[],[],j5 b (p+1) [0,1,-1,2,3,-4],decide (dp b (p+2) 3=0)⟩ (p+4)
theorem Oo{P:Term→Prop}{t:Term}{n:Int}(ht:P t):∀(us:List Term)(ks:List Int)(d:Bool),(∀u∈us,P u)→∀u∈(lx t n us ks d).1,P u
 | u::us,k::ks,d,h,v,hv=>by
   have ih:=Oo (n:=n) ht us ks (d||(!d&& !gC (aO u) (aO t))) (fun w hw=>h w (by simp[hw]))
   simp only[lx,List.mem_append] at hv
   rcases hv with hv|hv|hv
   ·split at hv
    ·simp only[du] at hv;rw[hv];exact ht
    ·simp at hv
   ·split at hv
    ·simp only[du] at hv;rw[hv];exact h u (by simp)
    ·simp at hv
   ·exact ih v hv
 | [],_,d,_,v,hv=>by
   cases d<;>simp[lx] at hv
   rw[hv];exact ht
 | _::_,[],d,_,v,hv=>by
   cases d<;>simp[lx] at hv
   rw[hv];exact ht
theorem Js{t:Term}:∀{d e:Nat},d≤e→bN t d=true→bN t e=true:=by
 intro d e h
 induction e with
 | zero=>intro ht;obtain rfl:d=0:=by omega
         exact ht
 | succ e ih=>
   intro ht
   rcases Nat.lt_or_ge d (e+1) with h1|h1
   ·exact De t e (ih (by omega) ht)
   ·obtain rfl:d=e+1:=by omega
    exact ht
structure tj(m:Nat)(a:Atom):Prop where
 len:a.nums.length=a.times.length
 few:a.nums.length≤m
 sh:∀t∈a.nums,bN t 4=true
theorem S5{m:Nat}{a:Atom}{t:Term}(h:tj m a)(ht:bN t 4=true)(n:Int):tj (m+1) (YF a t n):=by
 obtain⟨h1,h2⟩:=J7 t n a.nums a.times false
 exact⟨h1,by have:=h.few;simp only[Bool.false_eq_true,if_false] at h2;simp only[YF];omega,Oo (P:=fun t=>bN t 4=true) ht _ _ _ h.sh⟩
theorem yR{b:List Int}(hb:yV b){p:Int}(h1:0≤p){l:List Int}(hl:l≠[])(hd:∀x∈l,1≤x∧x≤4):∃d:Nat,j5 b p l=d∧1≤d∧d≤4:=by
 have:=hd _ (xf hb h1 hl)
 exact⟨(j5 b p l).toNat,by omega,by omega,by omega⟩
theorem PJ{d e:Nat}(h:d≤e):(2:Int) ^ d≤2 ^ e:=by
 have:=Nat.pow_le_pow_right (n:=2) (by omega) h
 have e1:(2:Int) ^ d=((2 ^ d:Nat):Int):=by simp
 have e2:(2:Int) ^ e=((2 ^ e:Nat):Int):=by simp
 rw[e1,e2]
 exact Int.ofNat_le.2 this
theorem BS{b:List Int}{s:dI}(h:fE s){d:Nat}(hd:d≤4)(sort p:Int):p≤(ik b s d sort p).2∧(ik b s d sort p).2≤p+15:=by
 have h1:=F7 (b:=b) h d sort p
 have h2:=PJ hd
 omega
theorem Ks{b:List Int}(hb:yV b){s:dI}(h:fE s){a:Atom}{p:Int}(hp:0≤p):p≤(lG b s a p).2∧(lG b s a p).2≤p+17:=by
 obtain⟨d,e,h1,h2⟩:=yR hb hp (l:=[1,1,2]) (by simp) (by decide)
 have:=BS (b:=b) h h2 1 (p+1)
 simp only[lG,e,bn]
 omega
theorem Bl{b:List Int}(hb:yV b){s:dI}(h:fE s){m:Nat}{a:Atom}{p:Int}(hp:0≤p)(ha:tj m a):tj (m+1) (lG b s a p).1:=by
 obtain⟨d,e,h1,h2⟩:=yR hb hp (l:=[1,1,2]) (by simp) (by decide)
 simp only[lG,e,bn]
 exact S5 ha (Js h2 (Aj hb h d 1 (p+1) (by omega) h1)) _
theorem U8{b:List Int}(hb:yV b){s:dI}(h:fE s):∀(n m:Nat)(a:Atom)(p:Int),0≤p→tj m a→p≤(uq (lG b s) n a p).2∧(uq (lG b s) n a p).2≤p+n*17∧tj (m+n) (uq (lG b s) n a p).1
 | 0,m,a,p,hp,ha=>by simpa[uq] using ha
 | n+1,m,a,p,hp,ha=>by
   have h1:=Ks hb h (a:=a) hp
   have h2:=U8 hb h n (m+1) (lG b s a p).1 (lG b s a p).2 (by omega) (Bl hb h hp ha)
   simp only[uq]
   refine⟨by omega,by omega,?_⟩
   have:=h2.2.2
   rwa [show m+1+n=m+(n+1) by omega] at this
theorem PX{b:List Int}(hb:yV b){s:dI}(h:fE s){p:Int}(hp:0≤p):p≤(nT b s p).2∧(nT b s p).2≤p+60∧tj 3 (nT b s p).1:=by
 unfold nT
 split
 ·obtain⟨d,e,h1,h2⟩:=yR hb (p:=p+2) (by omega) (l:=[1,2]) (by simp) (by decide)
  have k1:=BS (b:=b) h h2 (dp b (p+1) 2) (p+3)
  simp only[e,bn]
  generalize ik b s d (dp b (p+1) 2) (p+3)=x at k1⊢
  obtain⟨d2,e2,h3,h4⟩:=yR hb (p:=x.2) (by omega) (l:=[1,1,2]) (by simp) (by decide)
  have k2:=BS (b:=b) h h4 (dp b (p+1) 2) (x.2+1)
  simp only[e2,bn]
  exact⟨by omega,by omega,⟨rfl,by simp,by simp⟩⟩
 ·have hm:=xf hb (p:=p+3) (l:=[1,2,2,3]) (by omega) (by simp)
  have hk:(j5 b (p+3) [1,2,2,3]).toNat≤3:=by
   simp only[ax,List.not_mem_nil,or_false] at hm
   omega
  have:=U8 hb h (j5 b (p+3) [1,2,2,3]).toNat 0 ⟨2,aL,aL,[],[],j5 b (p+1) [0,1,-1,2,3,-4],decide (dp b (p+2) 3=0)⟩ (p+4) (by omega) ⟨rfl,by simp,by simp⟩
  refine⟨by omega,by omega,this.2.2.len,?_,this.2.2.sh⟩
  have:=this.2.2.few
  omega
def Ef(b:List Int)(s:dI)(p:Int):Atom×Int:=
 let r:=nT b s p
 let a:=r.1
 let c:=dp b r.2 80
 if c=0 then(⟨j5 b (r.2+1) [0,3,1,2],a.A,a.B,a.nums,a.times,a.bound,a.strict⟩,r.2+2) else
 if c=1 then(⟨a.kind,a.A,a.B,a.nums,a.times,j5 b (r.2+1) [1001,-9223372036854775808,5],a.strict⟩,r.2+2) else
 if c=2 then(⟨a.kind,(Ju b s (r.2+1)).1,a.B,a.nums,a.times,a.bound,a.strict⟩,(Ju b s (r.2+1)).2) else
 if c=3 then(if 0<a.times.length then(⟨a.kind,a.A,a.B,a.nums,a.times.set 0 (j5 b (r.2+1) [0,51,-9223372036854775808]),a.bound,a.strict⟩,r.2+2) else(a,r.2+1)) else
 if c=4 then(⟨a.kind,a.A,a.B,a.nums++[(ik b s 1 1 (r.2+1)).1],a.times,a.bound,a.strict⟩,(ik b s 1 1 (r.2+1)).2) else(a,r.2+1)
def W5(b:List Int)(atoms:List Atom):Nat→Int→Form×Int
 | 0,p=>(abQ,p)
 | d+1,p=>
   if d=0 then(.mk 1 ⟨atoms.getD (dp b p atoms.length).toNat xe,decide (dp b (p+1) 3=0)⟩ [],p+2) else
   if dp b p 4=0 then(.mk 1 ⟨atoms.getD (dp b (p+1) atoms.length).toNat xe,decide (dp b (p+2) 3=0)⟩ [],p+3) else
   let k:=j5 b (p+1) [3,4,4,5,3,6,2]
   let r:=mF (fun(_:Unit) q=>W5 b atoms d q) (aU (UZ k).toNat ()) (p+2)
   (.mk k EF r.1,r.2)
mutual
def nodes:Form→Nat
 | .mk _ _ ks=>1+Wl ks
def Wl:List Form→Nat
 | []=>0
 | t::ts=>nodes t+Wl ts
end
def UC(b:List Int)(s:dI)(out:List Atom)(p:Int):List Atom×Int:=
 (if e6 s (plain (out++[(nT b s p).1])) then(if Mz out (nT b s p).1<0 then out++[(nT b s p).1] else out) else out,(nT b s p).2)
def aaT:Atom:=⟨1,.mk [97] [],.mk [97] [],[],[],0,false⟩
def Zv(b:List Int)(s:dI)(p:Int):List Atom×Int:=
 let r:=uq (UC b s) (j5 b p [2,3,4,5,1]).toNat [] (p+1)
 (if r.1.length=0 then r.1++[aaT] else r.1,r.2)
def abr(b:List Int)(p:Int):dI×Form×Int:=
 let s:=(wM b p).1
 let a:=Zv b s (p+1)
 let r:=W5 b a.1 (j5 b a.2 [3,4,2,3,1]).toNat (a.2+1)
 (s,r.1,r.2)
def ZA(b:List Int)(p:Int):dI×Form×Int:=
 let r:=abr b p
 let f:=r.2.1
 let q:=r.2.2
 let c:=dp b q 64
 if c=0 then(r.1,.mk (j5 b (q+1) [0,7,1,2,3]) f.lit f.kids,q+2) else
 if c=1 then(r.1,.mk f.kind f.lit (f.kids++[f]),q+1) else
 if c=2 then(r.1,.mk f.kind ⟨(Ef b r.1 (q+1)).1,false⟩ f.kids,(Ef b r.1 (q+1)).2) else
 if c=3 then((jr b (jr b r.1 (q+1)).1 (jr b r.1 (q+1)).2).1,f,(jr b (jr b r.1 (q+1)).1 (jr b r.1 (q+1)).2).2) else(r.1,f,q+1)
def abU(b:List Int)(n:Nat)(p:Int):List Bool×Int:=
 let r:=mF (fun(_:Unit) q=>(decide (dp b q 2=0),q+1)) (aU n ()) p
 (if dp b r.2 30=0 then r.1++[true] else r.1,r.2+1)
def WQ(b:List Int)(told:List Atom)(out:List Form)(p:Int):List Form×Int:=
 let r:=W5 b told (j5 b p [2,3,1]).toNat (p+1)
 (out++[r.1],r.2)
def Ww(b:List Int)(told:List Atom):Nat→List Form→Int→List Form×Int
 | 0,l,p=>(l,p)
 | n+1,l,p=>Ww b told n (l++[(W5 b told 1 p).1]) (W5 b told 1 p).2
def UI(b:List Int)(p:Int):dI×List Form×Int:=
 let s:=(wM b p).1
 let a:=Zv b s (p+1)
 let r:=uq (WQ b a.1) (j5 b a.2 [2,3,1,4,0]).toNat [] (a.2+1)
 let c:=dp b r.2 48
 if c=0 then(s,r.1++[(ZA b (r.2+1)).2.1],(ZA b (r.2+1)).2.2) else
 if c=1 then(s,(Ww b a.1 (6-r.1.length) r.1 (r.2+1)).1,(Ww b a.1 (6-r.1.length) r.1 (r.2+1)).2) else
 if c=2 then((jr b (jr b s (r.2+1)).1 (jr b s (r.2+1)).2).1,r.1,(jr b (jr b s (r.2+1)).1 (jr b s (r.2+1)).2).2) else(s,r.1,r.2+1)
def Zy(b:List Int):List Form×List Bool:=((UI b 0).2.1,(abU b (AA [] (UI b 0).2.1).length (UI b 0).2.2).1)
end Go.Mod
