/-
  What is drawn from a code, in plain Lean: words, terms, atoms, forms. No program is walked here.
-/
import Derived.Test.YtabembjmeobhoaaGreatKADa
import Derived.Test.YtabembjmeobhoaaGreatKAEa
import Derived.Lib.SlicesCompact
set_option linter.unusedVariables false
set_option linter.unusedSimpArgs false
open Bool renaming and_eq_true→ai,true_and→aM
open Int renaming toNat_natCast→bo,tmod_lt_of_pos→nT
open List renaming getElem?_eq_getElem→ah,getElem_mem→ak,mem_cons→ay,getD_eq_getElem?_getD→az,replicate→aW,mem_of_getElem?→cM,mem_singleton→df
namespace Go.Mod
open Go.Eng
structure x7(b:List Int):Prop where
 len:b.length≤2000
 byte:∀x∈b,0≤x∧x≤255
theorem x7.getD{b:List Int}(h:x7 b)(i:Nat):0≤b.getD i 0∧b.getD i 0≤255:=by
 rw[az]
 cases hx:b[i]? with
 | none=>simp
 | some x=>exact h.byte x (cM hx)
def tJ(b:List Int)(p:Int):Int:=b.getD (p.tmod b.length).toNat 0*131+b.getD ((p*7+3).tmod b.length).toNat 0*1117+p*29+p.tdiv b.length*53
def da(b:List Int)(p n:Int):Int:=
 if n<1 then 0 else if b.length=0 then 0 else
 if p<b.length then(b.getD p.toNat 0).tmod n else(NC (tJ b p) ((tJ b p).tdiv 64)).tmod n
def jS(b:List Int)(p:Int)(l:List Int):Int:=l.getD (da b p l.length).toNat 0
def Rv(b:List Int)(p:Int)(l:List nh):nh:=l.getD (da b p l.length).toNat []
theorem Wn{b:List Int}(h:x7 b){p:Int}(h1:0≤p)(h2:p≤1000000000)(h3:b.length≠0):0≤p.tdiv b.length∧p.tdiv b.length≤p∧0≤tJ b p∧tJ b p≤1000000000000:=by
 have e1:=h.getD (p.tmod b.length).toNat
 have e2:=h.getD ((p*7+3).tmod b.length).toNat
 have e3:0≤p.tdiv b.length:=Int.tdiv_nonneg h1 (Int.natCast_nonneg _)
 have e4:p.tdiv b.length≤p:=by
  rw[Int.tdiv_eq_ediv_of_nonneg h1]
  exact Int.ediv_le_self _ h1
 refine⟨e3,e4,?_,?_⟩<;>(unfold tJ;omega)
theorem W8{b:List Int}(h:x7 b){p n:Int}(h1:0≤p)(hn:1≤n):0≤da b p n∧da b p n<n:=by
 unfold da
 rw[if_neg (by omega)]
 split
 ·omega
 ·split
  ·have:=h.getD p.toNat
   exact⟨Int.tmod_nonneg _ this.1,nT _ (by omega)⟩
  ·exact⟨Int.tmod_nonneg _ (X4 _ _),nT _ (by omega)⟩
theorem uZ{b:List Int}(h:x7 b){p:Int}{n:Nat}(h1:0≤p)(hn:1≤n):∃k:Nat,da b p n=k∧k<n:=by
 have:=W8 h (p:=p) (n:=n) h1 (by omega)
 exact⟨(da b p n).toNat,by omega,by omega⟩
theorem wM{b:List Int}(h:x7 b){p:Int}{l:List Int}(h1:0≤p)(hl:l≠[]):jS b p l∈l:=by
 have hn:1≤l.length:=by cases l with|nil=>exact(hl rfl).elim|cons=>simp
 obtain⟨k,e,hk⟩:=uZ h (n:=l.length) h1 hn
 unfold jS
 rw[e,bo,az,ah hk]
 exact ak hk
theorem WC{b:List Int}(h:x7 b){p:Int}{l:List nh}(h1:0≤p)(hl:l≠[]):Rv b p l∈l:=by
 have hn:1≤l.length:=by cases l with|nil=>exact(hl rfl).elim|cons=>simp
 obtain⟨k,e,hk⟩:=uZ h (n:=l.length) h1 hn
 unfold Rv
 rw[e,bo,az,ah hk]
 exact ak hk
def mq{α β:Type}(f:α→Int→β×Int):List α→Int→List β×Int
 | [],p=>([],p)
 | a::as,p=>((f a p).1::(mq f as (f a p).2).1,(mq f as (f a p).2).2)
theorem I1{α β:Type}(f:α→Int→β×Int)(x:α):∀(as:List α)(p:Int),mq f (as++[x]) p=((mq f as p).1++[(f x (mq f as p).2).1],(f x (mq f as p).2).2)
 | [],p=>rfl
 | a::as,p=>by simp only[List.cons_append,mq,I1 f x as]
theorem SY{α β:Type}(f:α→Int→β×Int){as:List α}{i:Nat}(h:i<as.length)(p:Int):mq f (as.take (i+1)) p=((mq f (as.take i) p).1++[(f as[i] (mq f (as.take i) p).2).1],(f as[i] (mq f (as.take i) p).2).2):=by
 have e:as.take (i+1)=as.take i++[as[i]]:=by rw[List.take_add_one,ah h];rfl
 rw[e,I1]
theorem Ov{α β:Type}{f:α→Int→β×Int}{c:Int}(hf:∀a p,p≤(f a p).2∧(f a p).2≤p+c):∀(as:List α)(p:Int),p≤(mq f as p).2∧(mq f as p).2≤p+as.length*c
 | [],p=>by simp[mq]
 | a::as,p=>by
   have h1:=hf a p
   have h2:=Ov hf as (f a p).2
   simp only[mq,List.length_cons]
   have:((as.length+1:Nat):Int)*c=as.length*c+c:=by rw[Int.natCast_add,Int.add_mul];simp
   omega
theorem A5{α β:Type}(f:α→Int→β×Int):∀(as:List α)(p:Int),(mq f as p).1.length=as.length
 | [],_=>rfl
 | a::as,p=>by simp[mq,A5 f as]
def tU{α:Type}(f:α→Int→α×Int):Nat→α→Int→α×Int
 | 0,a,p=>(a,p)
 | n+1,a,p=>tU f n (f a p).1 (f a p).2
def Bo(k:Int):dG:=
 if k=0 then⟨[⟨[97],[],0⟩,⟨[98],[],0⟩,⟨[99],[],0⟩,⟨[102],[0],0⟩,⟨[103],[0,0],0⟩]⟩ else
 if k=1 then⟨[⟨[97],[],0⟩,⟨[98],[],0⟩,⟨[104],[0],1⟩,⟨[120],[],1⟩,⟨[121],[],1⟩]⟩ else
 if k=2 then⟨[⟨[107],[1],1⟩,⟨[120],[],1⟩,⟨[121],[],1⟩,⟨[122],[],1⟩]⟩ else
 if k=3 then⟨[⟨[97],[],0⟩,⟨[117],[1],0⟩,⟨[118],[1,0],1⟩,⟨[120],[],1⟩,⟨[121],[],1⟩]⟩ else⟨[]⟩
def NB(b:List Int)(p:Int):dG×Int:=(Bo (jS b p [0,0,1,1,2,3,1,4]),p+1)
def fE(s:dG):Prop:=s.syms.length≤7∧∀x∈s.syms,x.args.length≤2∧fD x.name=true
instance(s:dG):Decidable (fE s):=by unfold fE;infer_instance
theorem PD(k:Int):fE (Bo k):=by
 unfold Bo
 split
 ·decide
 ·split
  ·decide
  ·split
   ·decide
   ·split<;>decide
def abm(b:List Int)(p:Int)(x:Sym):Sym:=⟨Rv b p [[],[65],[97,98,99],[122,122],[97]],x.args,x.sort⟩
def vD(b:List Int):Nat→List Sym→Int→List Sym×Int
 | 0,l,p=>(l,p)
 | n+1,l,p=>vD b n (l++[⟨122::Rv b p [[97],[98],[122]],[],0⟩]) (p+1)
def ji(b:List Int)(s:dG)(p:Int):dG×Int:=
 if s.syms.length=0 then(s,p) else
 if 0<da b p 8 then(s,p+1) else
 let k:=(da b (p+1) s.syms.length).toNat
 let c:=da b (p+2) 5
 let x:=s.syms.getD k ⟨[],[],0⟩
 if c=0 then(⟨s.syms.set k ⟨Rv b (p+3) [[],[65],[97,98,99],[122,122],[97]],x.args,x.sort⟩⟩,p+4) else
 if c=1 then(⟨s.syms.set k ⟨x.name,x.args++[jS b (p+3) [0,2,-1,1]],x.sort⟩⟩,p+4) else
 if c=2 then(⟨s.syms.set k ⟨x.name,x.args,jS b (p+3) [1,2,-1,0]⟩⟩,p+4) else
 if c=3 then(⟨s.syms++[x]⟩,p+3) else
 (⟨(vD b (8-s.syms.length) s.syms (p+3)).1⟩,(vD b (8-s.syms.length) s.syms (p+3)).2)
theorem K3(b:List Int):∀(n:Nat)(l:List Sym)(p:Int),(vD b n l p).2=p+n∧(vD b n l p).1.length=l.length+n
 | 0,_,_=>by simp[vD]
 | n+1,l,p=>by
   obtain⟨h1,h2⟩:=K3 b n (l++[⟨122::Rv b p [[97],[98],[122]],[],0⟩]) (p+1)
   simp only[vD,h1,h2,List.length_append,List.length_singleton]
   omega
theorem Wq(b:List Int)(s:dG)(p:Int):p≤(ji b s p).2∧(ji b s p).2≤p+20:=by
 have h1:=(K3 b (8-s.syms.length) s.syms (p+3)).1
 unfold ji
 simp only
 repeat' split
 all_goals(simp only[h1];omega)
def mG(s:dG)(sort:Int)(dq:Nat):List Sym:=s.syms.filter fun x=>decide (x.sort=sort)&&(decide (1<dq)||decide (x.args.length=0))
def hQ(b:List Int)(s:dG):Nat→Int→Int→Term×Int
 | 0,_,p=>(.mk [113] [],p)
 | d+1,sort,p=>
   if(mG s sort (d+1)).length=0 then(.mk [113] [],p) else
   let x:=(mG s sort (d+1)).getD (da b p (mG s sort (d+1)).length).toNat sg
   (.mk x.name (mq (hQ b s d) x.args (p+1)).1,(mq (hQ b s d) x.args (p+1)).2)
theorem ux{s:dG}{sort:Int}{d:Nat}{i:Nat}(h:fE s):((mG s sort d).getD i sg).args.length≤2∧(i<(mG s sort d).length→fD ((mG s sort d).getD i sg).name=true∧(d≤1→((mG s sort d).getD i sg).args=[])):=by
 rw[az]
 cases hx:(mG s sort d)[i]? with
 | none=>simp only[Option.getD_none];exact⟨by decide,fun hi=>by rw[ah hi] at hx;cases hx⟩
 | some x=>
   simp only[Option.getD_some]
   have hm:=cM hx
   rw[mG,List.mem_filter] at hm
   obtain⟨h1,h2⟩:=h.2 x hm.1
   refine⟨h1,fun _=>⟨h2,fun hd=>?_⟩⟩
   have:=hm.2
   simp only[ai,Bool.or_eq_true,decide_eq_true_eq] at this
   rcases this.2 with h3|h3
   ·omega
   ·exact List.eq_nil_of_length_eq_zero h3
theorem two_pow_pos(d:Nat):(1:Int)≤2 ^ d∧(2:Int) ^ (d+1)=2*2 ^ d:=by
 have h:=Nat.one_le_two_pow (n:=d)
 have e:(2:Int) ^ d=((2 ^ d:Nat):Int):=by simp
 exact⟨by omega,by rw[Int.pow_succ,Int.mul_comm]⟩
theorem GB{b:List Int}{s:dG}(h:fE s):∀(d:Nat)(sort p:Int),p≤(hQ b s d sort p).2∧(hQ b s d sort p).2≤p+(2 ^ d-1)
 | 0,_,p=>by simp[hQ]
 | d+1,sort,p=>by
   have ih:=GB (b:=b) h d
   obtain⟨hp,hp2⟩:=two_pow_pos d
   simp only[hQ]
   split
   ·simp only;omega
   ·have h1:=(ux (sort:=sort) (d:=d+1) (i:=(da b p (mG s sort (d+1)).length).toNat) h).1
    generalize (mG s sort (d+1)).getD (da b p (mG s sort (d+1)).length).toNat sg=x at h1⊢
    have h2:=Ov (f:=hQ b s d) (c:=2 ^ d-1) (fun a p=>ih a p) x.args (p+1)
    have h3:(x.args.length:Int)*(2 ^ d-1)≤2*(2 ^ d-1):=Int.mul_le_mul_of_nonneg_right (by omega) (by omega)
    simp only
    omega
theorem E1{d:Nat}:∀{ts:List Term},(∀t∈ts,bL t d=true)→cG ts d=true
 | [],_=>by simp[cG]
 | t::ts,h=>by
   simp only[cG,h t (by simp),aM]
   exact E1 fun u hu=>h u (by simp[hu])
theorem zC{b:List Int}(hb:x7 b){s:dG}(h:fE s):∀(d:Nat)(sort p:Int),0≤p→1≤d→bL (hQ b s d sort p).1 d=true
 | 0,_,_,_,hd=>by omega
 | d+1,sort,p,hp,_=>by
   simp only[hQ]
   split
   ·simp only[bL,cG,List.length_nil]
    decide
   ·rename_i ju
    have hn:1≤(mG s sort (d+1)).length:=by omega
    obtain⟨k,e,hk⟩:=uZ hb (p:=p) hp hn
    have h1:=ux (sort:=sort) (d:=d+1) (i:=k) h
    rw[e,bo]
    generalize (mG s sort (d+1)).getD k sg=x at h1⊢
    obtain⟨h2,h3⟩:=h1
    obtain⟨h3,h4⟩:=h3 hk
    simp only[bL,h3,aM,ai,decide_eq_true_eq]
    refine⟨by rw[A5];exact h2,?_⟩
    rcases Nat.eq_zero_or_pos d with rfl|hd
    ·rw[h4 (Nat.le_refl 1)]
     simp[mq,cG]
    ·refine E1 fun t ht=>?_
     have key:∀(as:List Int)(q:Int),0≤q→∀t∈(mq (hQ b s d) as q).1,bL t d=true:=by
      intro as
      induction as with
      | nil=>intro q _ t h;simp[mq] at h
      | cons a as ih=>
        intro q hq t ht
        simp only[mq,ay] at ht
        rcases ht with rfl|ht
        ·exact zC hb h d a q hq hd
        ·exact ih _ (by have:=(GB (b:=b) h d a q).1;omega) t ht
     exact key _ _ (by omega) t ht
def IQ(b:List Int)(s:dG)(p:Int):Term×Int:=
 let r:=hQ b s (jS b (p+1) [2,3,1,4]).toNat (da b p 2) (p+2)
 let c:=da b r.2 48
 if c=0 then(.mk (Rv b (r.2+1) [[],[65],[97,98,99],[102]]) r.1.kids,r.2+2) else
 if c=1 then(.mk r.1.name (r.1.kids++[r.1]),r.2+1) else
 if c=2 then(.mk r.1.name (r.1.kids++[r.1,r.1]),r.2+1) else(r.1,r.2+1)
def lh(t:Term)(n:Int):List Term→List Int→Bool→List Term×List Int
 | u::us,k::ks,done=>
   let now:=!done&& !gr (aN u) (aN t)
   let own:=decide (aN u≠aN t)
   let r:=lh t n us ks (done||now)
   ((if now then [t] else [])++((if own then [u] else [])++r.1),(if now then [n] else [])++((if own then [k] else [])++r.2))
 | _,_,done=>if done then([],[]) else([t],[n])
def WY(a:Atom)(t:Term)(n:Int):Atom:=⟨a.kind,aL,aL,(lh t n a.nums a.times false).1,(lh t n a.nums a.times false).2,a.bound,a.strict⟩
theorem I2(t:Term)(n:Int):∀(us:List Term)(ks:List Int)(d:Bool),(lh t n us ks d).1.length=(lh t n us ks d).2.length∧(lh t n us ks d).1.length≤us.length+(if d then 0 else 1)
 | u::us,k::ks,d=>by
   simp only[lh]
   generalize decide (aN u≠aN t)=o
   generalize gr (aN u) (aN t)=q
   have h:=I2 t n us ks (d||(!d&& !q))
   generalize lh t n us ks (d||(!d&& !q))=r at h
   cases d<;>cases q<;>cases o<;>simp at h⊢<;>omega
 | [],_,d=>by cases d<;>simp[lh]
 | _::_,[],d=>by cases d<;>simp[lh]
def lB(b:List Int)(s:dG)(a:Atom)(p:Int):Atom×Int:=
 let r:=hQ b s (jS b p [1,1,2]).toNat 1 (p+1)
 (WY a r.1 (jS b r.2 [1,-1,1,-1,2,-2]),r.2+1)
def nN(b:List Int)(s:dG)(p:Int):Atom×Int:=
 if da b p 2=0 then
  let x:=hQ b s (jS b (p+2) [1,2]).toNat (da b (p+1) 2) (p+3)
  let y:=hQ b s (jS b x.2 [1,1,2]).toNat (da b (p+1) 2) (x.2+1)
  (⟨1,x.1,y.1,[],[],0,false⟩,y.2)
 else tU (lB b s) (jS b (p+3) [1,2,2,3]).toNat ⟨2,aL,aL,[],[],jS b (p+1) [0,1,-1,2,3,-4],decide (da b (p+2) 3=0)⟩ (p+4)
theorem Ns{P:Term→Prop}{t:Term}{n:Int}(ht:P t):∀(us:List Term)(ks:List Int)(d:Bool),(∀u∈us,P u)→∀u∈(lh t n us ks d).1,P u
 | u::us,k::ks,d,h,v,hv=>by
   have ih:=Ns (n:=n) ht us ks (d||(!d&& !gr (aN u) (aN t))) (fun w hw=>h w (by simp[hw]))
   simp only[lh,List.mem_append] at hv
   rcases hv with hv|hv|hv
   ·split at hv
    ·simp only[df] at hv;rw[hv];exact ht
    ·simp at hv
   ·split at hv
    ·simp only[df] at hv;rw[hv];exact h u (by simp)
    ·simp at hv
   ·exact ih v hv
 | [],_,d,_,v,hv=>by
   cases d<;>simp[lh] at hv
   rw[hv];exact ht
 | _::_,[],d,_,v,hv=>by
   cases d<;>simp[lh] at hv
   rw[hv];exact ht
theorem Jm{t:Term}:∀{d e:Nat},d≤e→bL t d=true→bL t e=true:=by
 intro d e h
 induction e with
 | zero=>intro ht;obtain rfl:d=0:=by omega
         exact ht
 | succ e ih=>
   intro ht
   rcases Nat.lt_or_ge d (e+1) with h1|h1
   ·exact Cb t e (ih (by omega) ht)
   ·obtain rfl:d=e+1:=by omega
    exact ht
structure sE(m:Nat)(a:Atom):Prop where
 len:a.nums.length=a.times.length
 few:a.nums.length≤m
 sh:∀t∈a.nums,bL t 4=true
theorem SR{m:Nat}{a:Atom}{t:Term}(h:sE m a)(ht:bL t 4=true)(n:Int):sE (m+1) (WY a t n):=by
 obtain⟨h1,h2⟩:=I2 t n a.nums a.times false
 exact⟨h1,by have:=h.few;simp only[Bool.false_eq_true,if_false] at h2;simp only[WY];omega,Ns (P:=fun t=>bL t 4=true) ht _ _ _ h.sh⟩
theorem xL{b:List Int}(hb:x7 b){p:Int}(h1:0≤p){l:List Int}(hl:l≠[])(hd:∀x∈l,1≤x∧x≤4):∃d:Nat,jS b p l=d∧1≤d∧d≤4:=by
 have:=hd _ (wM hb h1 hl)
 exact⟨(jS b p l).toNat,by omega,by omega,by omega⟩
theorem Ol{d e:Nat}(h:d≤e):(2:Int) ^ d≤2 ^ e:=by
 have:=Nat.pow_le_pow_right (n:=2) (by omega) h
 have e1:(2:Int) ^ d=((2 ^ d:Nat):Int):=by simp
 have e2:(2:Int) ^ e=((2 ^ e:Nat):Int):=by simp
 rw[e1,e2]
 exact Int.ofNat_le.2 this
theorem AR{b:List Int}{s:dG}(h:fE s){d:Nat}(hd:d≤4)(sort p:Int):p≤(hQ b s d sort p).2∧(hQ b s d sort p).2≤p+15:=by
 have h1:=GB (b:=b) h d sort p
 have h2:=Ol hd
 omega
theorem Ic{b:List Int}(hb:x7 b){s:dG}(h:fE s){a:Atom}{p:Int}(hp:0≤p):p≤(lB b s a p).2∧(lB b s a p).2≤p+17:=by
 obtain⟨d,e,h1,h2⟩:=xL hb hp (l:=[1,1,2]) (by simp) (by decide)
 have:=AR (b:=b) h h2 1 (p+1)
 simp only[lB,e,bo]
 omega
theorem Be{b:List Int}(hb:x7 b){s:dG}(h:fE s){m:Nat}{a:Atom}{p:Int}(hp:0≤p)(ha:sE m a):sE (m+1) (lB b s a p).1:=by
 obtain⟨d,e,h1,h2⟩:=xL hb hp (l:=[1,1,2]) (by simp) (by decide)
 simp only[lB,e,bo]
 exact SR ha (Jm h2 (zC hb h d 1 (p+1) (by omega) h1)) _
theorem Wa{b:List Int}(hb:x7 b){s:dG}(h:fE s):∀(n m:Nat)(a:Atom)(p:Int),0≤p→sE m a→p≤(tU (lB b s) n a p).2∧(tU (lB b s) n a p).2≤p+n*17∧sE (m+n) (tU (lB b s) n a p).1
 | 0,m,a,p,hp,ha=>by simpa[tU] using ha
 | n+1,m,a,p,hp,ha=>by
   have h1:=Ic hb h (a:=a) hp
   have h2:=Wa hb h n (m+1) (lB b s a p).1 (lB b s a p).2 (by omega) (Be hb h hp ha)
   simp only[tU]
   refine⟨by omega,by omega,?_⟩
   have:=h2.2.2
   rwa [show m+1+n=m+(n+1) by omega] at this
theorem Qf{b:List Int}(hb:x7 b){s:dG}(h:fE s){p:Int}(hp:0≤p):p≤(nN b s p).2∧(nN b s p).2≤p+60∧sE 3 (nN b s p).1:=by
 unfold nN
 split
 ·obtain⟨d,e,h1,h2⟩:=xL hb (p:=p+2) (by omega) (l:=[1,2]) (by simp) (by decide)
  have k1:=AR (b:=b) h h2 (da b (p+1) 2) (p+3)
  simp only[e,bo]
  generalize hQ b s d (da b (p+1) 2) (p+3)=x at k1⊢
  obtain⟨d2,e2,h3,h4⟩:=xL hb (p:=x.2) (by omega) (l:=[1,1,2]) (by simp) (by decide)
  have k2:=AR (b:=b) h h4 (da b (p+1) 2) (x.2+1)
  simp only[e2,bo]
  exact⟨by omega,by omega,⟨rfl,by simp,by simp⟩⟩
 ·have hm:=wM hb (p:=p+3) (l:=[1,2,2,3]) (by omega) (by simp)
  have hk:(jS b (p+3) [1,2,2,3]).toNat≤3:=by
   simp only[ay,List.not_mem_nil,or_false] at hm
   omega
  have:=Wa hb h (jS b (p+3) [1,2,2,3]).toNat 0 ⟨2,aL,aL,[],[],jS b (p+1) [0,1,-1,2,3,-4],decide (da b (p+2) 3=0)⟩ (p+4) (by omega) ⟨rfl,by simp,by simp⟩
  refine⟨by omega,by omega,this.2.2.len,?_,this.2.2.sh⟩
  have:=this.2.2.few
  omega
def CU(b:List Int)(s:dG)(p:Int):Atom×Int:=
 let r:=nN b s p
 let a:=r.1
 let c:=da b r.2 80
 if c=0 then(⟨jS b (r.2+1) [0,3,1,2],a.A,a.B,a.nums,a.times,a.bound,a.strict⟩,r.2+2) else
 if c=1 then(⟨a.kind,a.A,a.B,a.nums,a.times,jS b (r.2+1) [1001,-9223372036854775808,5],a.strict⟩,r.2+2) else
 if c=2 then(⟨a.kind,(IQ b s (r.2+1)).1,a.B,a.nums,a.times,a.bound,a.strict⟩,(IQ b s (r.2+1)).2) else
 if c=3 then(if 0<a.times.length then(⟨a.kind,a.A,a.B,a.nums,a.times.set 0 (jS b (r.2+1) [0,51,-9223372036854775808]),a.bound,a.strict⟩,r.2+2) else(a,r.2+1)) else
 if c=4 then(⟨a.kind,a.A,a.B,a.nums++[(hQ b s 1 1 (r.2+1)).1],a.times,a.bound,a.strict⟩,(hQ b s 1 1 (r.2+1)).2) else(a,r.2+1)
def T2(b:List Int)(atoms:List Atom):Nat→Int→Form×Int
 | 0,p=>(aan,p)
 | d+1,p=>
   if d=0 then(.mk 1 ⟨atoms.getD (da b p atoms.length).toNat vY,decide (da b (p+1) 3=0)⟩ [],p+2) else
   if da b p 4=0 then(.mk 1 ⟨atoms.getD (da b (p+1) atoms.length).toNat vY,decide (da b (p+2) 3=0)⟩ [],p+3) else
   let k:=jS b (p+1) [3,4,4,5,3,6,2]
   let r:=mq (fun(_:Unit) q=>T2 b atoms d q) (aW (Vc k).toNat ()) (p+2)
   (.mk k DN r.1,r.2)
mutual
def nodes:Form→Nat
 | .mk _ _ ks=>1+TD ks
def TD:List Form→Nat
 | []=>0
 | t::ts=>nodes t+TD ts
end
def TM(b:List Int)(s:dG)(out:List Atom)(p:Int):List Atom×Int:=
 (if fa s (plain (out++[(nN b s p).1])) then(if KS out (nN b s p).1<0 then out++[(nN b s p).1] else out) else out,(nN b s p).2)
def Y5:Atom:=⟨1,.mk [97] [],.mk [97] [],[],[],0,false⟩
def Ym(b:List Int)(s:dG)(p:Int):List Atom×Int:=
 let r:=tU (TM b s) (jS b p [2,3,4,5,1]).toNat [] (p+1)
 (if r.1.length=0 then r.1++[Y5] else r.1,r.2)
def aam(b:List Int)(p:Int):dG×Form×Int:=
 let s:=(NB b p).1
 let a:=Ym b s (p+1)
 let r:=T2 b a.1 (jS b a.2 [3,4,2,3,1]).toNat (a.2+1)
 (s,r.1,r.2)
def Yh(b:List Int)(p:Int):dG×Form×Int:=
 let r:=aam b p
 let f:=r.2.1
 let q:=r.2.2
 let c:=da b q 64
 if c=0 then(r.1,.mk (jS b (q+1) [0,7,1,2,3]) f.lit f.kids,q+2) else
 if c=1 then(r.1,.mk f.kind f.lit (f.kids++[f]),q+1) else
 if c=2 then(r.1,.mk f.kind ⟨(CU b r.1 (q+1)).1,false⟩ f.kids,(CU b r.1 (q+1)).2) else
 if c=3 then((ji b (ji b r.1 (q+1)).1 (ji b r.1 (q+1)).2).1,f,(ji b (ji b r.1 (q+1)).1 (ji b r.1 (q+1)).2).2) else(r.1,f,q+1)
def aaw(b:List Int)(n:Nat)(p:Int):List Bool×Int:=
 let r:=mq (fun(_:Unit) q=>(decide (da b q 2=0),q+1)) (aW n ()) p
 (if da b r.2 30=0 then r.1++[true] else r.1,r.2+1)
def Vo(b:List Int)(told:List Atom)(out:List Form)(p:Int):List Form×Int:=
 let r:=T2 b told (jS b p [2,3,1]).toNat (p+1)
 (out++[r.1],r.2)
def VV(b:List Int)(told:List Atom):Nat→List Form→Int→List Form×Int
 | 0,l,p=>(l,p)
 | n+1,l,p=>VV b told n (l++[(T2 b told 1 p).1]) (T2 b told 1 p).2
def U8(b:List Int)(p:Int):dG×List Form×Int:=
 let s:=(NB b p).1
 let a:=Ym b s (p+1)
 let r:=tU (Vo b a.1) (jS b a.2 [2,3,1,4,0]).toNat [] (a.2+1)
 let c:=da b r.2 48
 if c=0 then(s,r.1++[(Yh b (r.2+1)).2.1],(Yh b (r.2+1)).2.2) else
 if c=1 then(s,(VV b a.1 (6-r.1.length) r.1 (r.2+1)).1,(VV b a.1 (6-r.1.length) r.1 (r.2+1)).2) else
 if c=2 then((ji b (ji b s (r.2+1)).1 (ji b s (r.2+1)).2).1,r.1,(ji b (ji b s (r.2+1)).1 (ji b s (r.2+1)).2).2) else(s,r.1,r.2+1)
def Yj(b:List Int):List Form×List Bool:=((U8 b 0).2.1,(aaw b (yV [] (U8 b 0).2.1).length (U8 b 0).2.2).1)
end Go.Mod
