/-
  What is drawn from a code, in plain Lean: words, terms, atoms, forms. No program is walked here.
-/
import Derived.Test.YtabembjmeobhoaaGreatKDDa
import Derived.Test.YtabembjmeobhoaaGreatKDEa
import Derived.Lib.SlicesCompact
set_option linter.unusedVariables false
set_option linter.unusedSimpArgs false
open Bool renaming and_eq_true→al,true_and→aB
open Int renaming toNat_natCast→bn,tmod_lt_of_pos→n5
open List renaming getElem?_eq_getElem→ah,getElem_mem→ak,mem_cons→ay,getD_eq_getElem?_getD→aA,replicate→aS,mem_of_getElem?→c9,mem_singleton→fb
namespace Go.Mod
open Go.Eng
structure yU(b:List Int):Prop where
 len:b.length≤2000
 byte:∀x∈b,0≤x∧x≤255
theorem yU.getD{b:List Int}(h:yU b)(i:Nat):0≤b.getD i 0∧b.getD i 0≤255:=by
 rw[aA]
 cases hx:b[i]? with
 | none=>simp
 | some x=>exact h.byte x (c9 hx)
def uq(b:List Int)(p:Int):Int:=b.getD (p.tmod b.length).toNat 0*131+b.getD ((p*7+3).tmod b.length).toNat 0*1117+p*29+p.tdiv b.length*53
def dk(b:List Int)(p n:Int):Int:=
 if n<1 then 0 else if b.length=0 then 0 else
 if p<b.length then(b.getD p.toNat 0).tmod n else(NO (uq b p) ((uq b p).tdiv 64)).tmod n
def jV(b:List Int)(p:Int)(l:List Int):Int:=l.getD (dk b p l.length).toNat 0
def Rs(b:List Int)(p:Int)(l:List nz):nz:=l.getD (dk b p l.length).toNat []
theorem Yj{b:List Int}(h:yU b){p:Int}(h1:0≤p)(h2:p≤1000000000)(h3:b.length≠0):0≤p.tdiv b.length∧p.tdiv b.length≤p∧0≤uq b p∧uq b p≤1000000000000:=by
 have e1:=h.getD (p.tmod b.length).toNat
 have e2:=h.getD ((p*7+3).tmod b.length).toNat
 have e3:0≤p.tdiv b.length:=Int.tdiv_nonneg h1 (Int.natCast_nonneg _)
 have e4:p.tdiv b.length≤p:=by
  rw[Int.tdiv_eq_ediv_of_nonneg h1]
  exact Int.ediv_le_self _ h1
 refine⟨e3,e4,?_,?_⟩<;>(unfold uq;omega)
theorem Yi{b:List Int}(h:yU b){p n:Int}(h1:0≤p)(hn:1≤n):0≤dk b p n∧dk b p n<n:=by
 unfold dk
 rw[if_neg (by omega)]
 split
 ·omega
 ·split
  ·have:=h.getD p.toNat
   exact⟨Int.tmod_nonneg _ this.1,n5 _ (by omega)⟩
  ·exact⟨Int.tmod_nonneg _ (Xe _ _),n5 _ (by omega)⟩
theorem vz{b:List Int}(h:yU b){p:Int}{n:Nat}(h1:0≤p)(hn:1≤n):∃k:Nat,dk b p n=k∧k<n:=by
 have:=Yi h (p:=p) (n:=n) h1 (by omega)
 exact⟨(dk b p n).toNat,by omega,by omega⟩
theorem xK{b:List Int}(h:yU b){p:Int}{l:List Int}(h1:0≤p)(hl:l≠[]):jV b p l∈l:=by
 have hn:1≤l.length:=by cases l with|nil=>exact(hl rfl).elim|cons=>simp
 obtain⟨k,e,hk⟩:=vz h (n:=l.length) h1 hn
 unfold jV
 rw[e,bn,aA,ah hk]
 exact ak hk
theorem XP{b:List Int}(h:yU b){p:Int}{l:List nz}(h1:0≤p)(hl:l≠[]):Rs b p l∈l:=by
 have hn:1≤l.length:=by cases l with|nil=>exact(hl rfl).elim|cons=>simp
 obtain⟨k,e,hk⟩:=vz h (n:=l.length) h1 hn
 unfold Rs
 rw[e,bn,aA,ah hk]
 exact ak hk
def mu{α β:Type}(f:α→Int→β×Int):List α→Int→List β×Int
 | [],p=>([],p)
 | a::as,p=>((f a p).1::(mu f as (f a p).2).1,(mu f as (f a p).2).2)
theorem Jm{α β:Type}(f:α→Int→β×Int)(x:α):∀(as:List α)(p:Int),mu f (as++[x]) p=((mu f as p).1++[(f x (mu f as p).2).1],(f x (mu f as p).2).2)
 | [],p=>rfl
 | a::as,p=>by simp only[List.cons_append,mu,Jm f x as]
theorem SD{α β:Type}(f:α→Int→β×Int){as:List α}{i:Nat}(h:i<as.length)(p:Int):mu f (as.take (i+1)) p=((mu f (as.take i) p).1++[(f as[i] (mu f (as.take i) p).2).1],(f as[i] (mu f (as.take i) p).2).2):=by
 have e:as.take (i+1)=as.take i++[as[i]]:=by rw[List.take_add_one,ah h];rfl
 rw[e,Jm]
theorem Qz{α β:Type}{f:α→Int→β×Int}{c:Int}(hf:∀a p,p≤(f a p).2∧(f a p).2≤p+c):∀(as:List α)(p:Int),p≤(mu f as p).2∧(mu f as p).2≤p+as.length*c
 | [],p=>by simp[mu]
 | a::as,p=>by
   have h1:=hf a p
   have h2:=Qz hf as (f a p).2
   simp only[mu,List.length_cons]
   have:((as.length+1:Nat):Int)*c=as.length*c+c:=by rw[Int.natCast_add,Int.add_mul];simp
   omega
theorem Bo{α β:Type}(f:α→Int→β×Int):∀(as:List α)(p:Int),(mu f as p).1.length=as.length
 | [],_=>rfl
 | a::as,p=>by simp[mu,Bo f as]
def uv{α:Type}(f:α→Int→α×Int):Nat→α→Int→α×Int
 | 0,a,p=>(a,p)
 | n+1,a,p=>uv f n (f a p).1 (f a p).2
def Br(k:Int):dK:=
 if k=0 then⟨[⟨[97],[],0⟩,⟨[98],[],0⟩,⟨[99],[],0⟩,⟨[102],[0],0⟩,⟨[103],[0,0],0⟩]⟩ else
 if k=1 then⟨[⟨[97],[],0⟩,⟨[98],[],0⟩,⟨[104],[0],1⟩,⟨[120],[],1⟩,⟨[121],[],1⟩]⟩ else
 if k=2 then⟨[⟨[107],[1],1⟩,⟨[120],[],1⟩,⟨[121],[],1⟩,⟨[122],[],1⟩]⟩ else
 if k=3 then⟨[⟨[97],[],0⟩,⟨[117],[1],0⟩,⟨[118],[1,0],1⟩,⟨[120],[],1⟩,⟨[121],[],1⟩]⟩ else⟨[]⟩
def NZ(b:List Int)(p:Int):dK×Int:=(Br (jV b p [0,0,1,1,2,3,1,4]),p+1)
def fM(s:dK):Prop:=s.syms.length≤7∧∀x∈s.syms,x.args.length≤2∧fC x.name=true
instance(s:dK):Decidable (fM s):=by unfold fM;infer_instance
theorem P1(k:Int):fM (Br k):=by
 unfold Br
 split
 ·decide
 ·split
  ·decide
  ·split
   ·decide
   ·split<;>decide
def ab9(b:List Int)(p:Int)(x:Sym):Sym:=⟨Rs b p [[],[65],[97,98,99],[122,122],[97]],x.args,x.sort⟩
def wx(b:List Int):Nat→List Sym→Int→List Sym×Int
 | 0,l,p=>(l,p)
 | n+1,l,p=>wx b n (l++[⟨122::Rs b p [[97],[98],[122]],[],0⟩]) (p+1)
def ji(b:List Int)(s:dK)(p:Int):dK×Int:=
 if s.syms.length=0 then(s,p) else
 if 0<dk b p 8 then(s,p+1) else
 let k:=(dk b (p+1) s.syms.length).toNat
 let c:=dk b (p+2) 5
 let x:=s.syms.getD k ⟨[],[],0⟩
 if c=0 then(⟨s.syms.set k ⟨Rs b (p+3) [[],[65],[97,98,99],[122,122],[97]],x.args,x.sort⟩⟩,p+4) else
 if c=1 then(⟨s.syms.set k ⟨x.name,x.args++[jV b (p+3) [0,2,-1,1]],x.sort⟩⟩,p+4) else
 if c=2 then(⟨s.syms.set k ⟨x.name,x.args,jV b (p+3) [1,2,-1,0]⟩⟩,p+4) else
 if c=3 then(⟨s.syms++[x]⟩,p+3) else
 (⟨(wx b (8-s.syms.length) s.syms (p+3)).1⟩,(wx b (8-s.syms.length) s.syms (p+3)).2)
theorem KA(b:List Int):∀(n:Nat)(l:List Sym)(p:Int),(wx b n l p).2=p+n∧(wx b n l p).1.length=l.length+n
 | 0,_,_=>by simp[wx]
 | n+1,l,p=>by
   obtain⟨h1,h2⟩:=KA b n (l++[⟨122::Rs b p [[97],[98],[122]],[],0⟩]) (p+1)
   simp only[wx,h1,h2,List.length_append,List.length_singleton]
   omega
theorem Yf(b:List Int)(s:dK)(p:Int):p≤(ji b s p).2∧(ji b s p).2≤p+20:=by
 have h1:=(KA b (8-s.syms.length) s.syms (p+3)).1
 unfold ji
 simp only
 repeat' split
 all_goals(simp only[h1];omega)
def mK(s:dK)(sort:Int)(bD:Nat):List Sym:=s.syms.filter fun x=>decide (x.sort=sort)&&(decide (1<bD)||decide (x.args.length=0))
def hY(b:List Int)(s:dK):Nat→Int→Int→Term×Int
 | 0,_,p=>(.mk [113] [],p)
 | d+1,sort,p=>
   if(mK s sort (d+1)).length=0 then(.mk [113] [],p) else
   let x:=(mK s sort (d+1)).getD (dk b p (mK s sort (d+1)).length).toNat sX
   (.mk x.name (mu (hY b s d) x.args (p+1)).1,(mu (hY b s d) x.args (p+1)).2)
theorem vC{s:dK}{sort:Int}{d:Nat}{i:Nat}(h:fM s):((mK s sort d).getD i sX).args.length≤2∧(i<(mK s sort d).length→fC ((mK s sort d).getD i sX).name=true∧(d≤1→((mK s sort d).getD i sX).args=[])):=by
 rw[aA]
 cases hx:(mK s sort d)[i]? with
 | none=>simp only[Option.getD_none];exact⟨by decide,fun hi=>by rw[ah hi] at hx;cases hx⟩
 | some x=>
   simp only[Option.getD_some]
   have hm:=c9 hx
   rw[mK,List.mem_filter] at hm
   obtain⟨h1,h2⟩:=h.2 x hm.1
   refine⟨h1,fun _=>⟨h2,fun hd=>?_⟩⟩
   have:=hm.2
   simp only[al,Bool.or_eq_true,decide_eq_true_eq] at this
   rcases this.2 with h3|h3
   ·omega
   ·exact List.eq_nil_of_length_eq_zero h3
theorem two_pow_pos(d:Nat):(1:Int)≤2 ^ d∧(2:Int) ^ (d+1)=2*2 ^ d:=by
 have h:=Nat.one_le_two_pow (n:=d)
 have e:(2:Int) ^ d=((2 ^ d:Nat):Int):=by simp
 exact⟨by omega,by rw[Int.pow_succ,Int.mul_comm]⟩
theorem GZ{b:List Int}{s:dK}(h:fM s):∀(d:Nat)(sort p:Int),p≤(hY b s d sort p).2∧(hY b s d sort p).2≤p+(2 ^ d-1)
 | 0,_,p=>by simp[hY]
 | d+1,sort,p=>by
   have ih:=GZ (b:=b) h d
   obtain⟨hp,hp2⟩:=two_pow_pos d
   simp only[hY]
   split
   ·simp only;omega
   ·have h1:=(vC (sort:=sort) (d:=d+1) (i:=(dk b p (mK s sort (d+1)).length).toNat) h).1
    generalize (mK s sort (d+1)).getD (dk b p (mK s sort (d+1)).length).toNat sX=x at h1⊢
    have h2:=Qz (f:=hY b s d) (c:=2 ^ d-1) (fun a p=>ih a p) x.args (p+1)
    have h3:(x.args.length:Int)*(2 ^ d-1)≤2*(2 ^ d-1):=Int.mul_le_mul_of_nonneg_right (by omega) (by omega)
    simp only
    omega
theorem Hf{d:Nat}:∀{ts:List Term},(∀t∈ts,bO t d=true)→cJ ts d=true
 | [],_=>by simp[cJ]
 | t::ts,h=>by
   simp only[cJ,h t (by simp),aB]
   exact Hf fun u hu=>h u (by simp[hu])
theorem Ac{b:List Int}(hb:yU b){s:dK}(h:fM s):∀(d:Nat)(sort p:Int),0≤p→1≤d→bO (hY b s d sort p).1 d=true
 | 0,_,_,_,hd=>by omega
 | d+1,sort,p,hp,_=>by
   simp only[hY]
   split
   ·simp only[bO,cJ,List.length_nil]
    decide
   ·rename_i jJ
    have hn:1≤(mK s sort (d+1)).length:=by omega
    obtain⟨k,e,hk⟩:=vz hb (p:=p) hp hn
    have h1:=vC (sort:=sort) (d:=d+1) (i:=k) h
    rw[e,bn]
    generalize (mK s sort (d+1)).getD k sX=x at h1⊢
    obtain⟨h2,h3⟩:=h1
    obtain⟨h3,h4⟩:=h3 hk
    simp only[bO,h3,aB,al,decide_eq_true_eq]
    refine⟨by rw[Bo];exact h2,?_⟩
    rcases Nat.eq_zero_or_pos d with rfl|hd
    ·rw[h4 (Nat.le_refl 1)]
     simp[mu,cJ]
    ·refine Hf fun t ht=>?_
     have key:∀(as:List Int)(q:Int),0≤q→∀t∈(mu (hY b s d) as q).1,bO t d=true:=by
      intro as
      induction as with
      | nil=>intro q _ t h;simp[mu] at h
      | cons a as ih=>
        intro q hq t ht
        simp only[mu,ay] at ht
        rcases ht with rfl|ht
        ·exact Ac hb h d a q hq hd
        ·exact ih _ (by have:=(GZ (b:=b) h d a q).1;omega) t ht
     exact key _ _ (by omega) t ht
def JL(b:List Int)(s:dK)(p:Int):Term×Int:=
 let r:=hY b s (jV b (p+1) [2,3,1,4]).toNat (dk b p 2) (p+2)
 let c:=dk b r.2 48
 if c=0 then(.mk (Rs b (r.2+1) [[],[65],[97,98,99],[102]]) r.1.kids,r.2+2) else
 if c=1 then(.mk r.1.name (r.1.kids++[r.1]),r.2+1) else
 if c=2 then(.mk r.1.name (r.1.kids++[r.1,r.1]),r.2+1) else(r.1,r.2+1)
def lq(t:Term)(n:Int):List Term→List Int→Bool→List Term×List Int
 | u::us,k::ks,done=>
   let now:=!done&& !gy (aO u) (aO t)
   let own:=decide (aO u≠aO t)
   let r:=lq t n us ks (done||now)
   ((if now then [t] else [])++((if own then [u] else [])++r.1),(if now then [n] else [])++((if own then [k] else [])++r.2))
 | _,_,done=>if done then([],[]) else([t],[n])
def YM(a:Atom)(t:Term)(n:Int):Atom:=⟨a.kind,aM,aM,(lq t n a.nums a.times false).1,(lq t n a.nums a.times false).2,a.bound,a.strict⟩
theorem JC(t:Term)(n:Int):∀(us:List Term)(ks:List Int)(d:Bool),(lq t n us ks d).1.length=(lq t n us ks d).2.length∧(lq t n us ks d).1.length≤us.length+(if d then 0 else 1)
 | u::us,k::ks,d=>by
   simp only[lq]
   generalize decide (aO u≠aO t)=o
   generalize gy (aO u) (aO t)=q
   have h:=JC t n us ks (d||(!d&& !q))
   generalize lq t n us ks (d||(!d&& !q))=r at h
   cases d<;>cases q<;>cases o<;>simp at h⊢<;>omega
 | [],_,d=>by cases d<;>simp[lq]
 | _::_,[],d=>by cases d<;>simp[lq]
def lG(b:List Int)(s:dK)(a:Atom)(p:Int):Atom×Int:=
 let r:=hY b s (jV b p [1,1,2]).toNat 1 (p+1)
 (YM a r.1 (jV b r.2 [1,-1,1,-1,2,-2]),r.2+1)
def nV(b:List Int)(s:dK)(p:Int):Atom×Int:=
 if dk b p 2=0 then
  let x:=hY b s (jV b (p+2) [1,2]).toNat (dk b (p+1) 2) (p+3)
  let y:=hY b s (jV b x.2 [1,1,2]).toNat (dk b (p+1) 2) (x.2+1)
  (⟨1,x.1,y.1,[],[],0,false⟩,y.2)
 else uv (lG b s) (jV b (p+3) [1,2,2,3]).toNat ⟨2,aM,aM,[],[],jV b (p+1) [0,1,-1,2,3,-4],decide (dk b (p+2) 3=0)⟩ (p+4)
theorem Nh{P:Term→Prop}{t:Term}{n:Int}(ht:P t):∀(us:List Term)(ks:List Int)(d:Bool),(∀u∈us,P u)→∀u∈(lq t n us ks d).1,P u
 | u::us,k::ks,d,h,v,hv=>by
   have ih:=Nh (n:=n) ht us ks (d||(!d&& !gy (aO u) (aO t))) (fun w hw=>h w (by simp[hw]))
   simp only[lq,List.mem_append] at hv
   rcases hv with hv|hv|hv
   ·split at hv
    ·simp only[fb] at hv;rw[hv];exact ht
    ·simp at hv
   ·split at hv
    ·simp only[fb] at hv;rw[hv];exact h u (by simp)
    ·simp at hv
   ·exact ih v hv
 | [],_,d,_,v,hv=>by
   cases d<;>simp[lq] at hv
   rw[hv];exact ht
 | _::_,[],d,_,v,hv=>by
   cases d<;>simp[lq] at hv
   rw[hv];exact ht
theorem JT{t:Term}:∀{d e:Nat},d≤e→bO t d=true→bO t e=true:=by
 intro d e h
 induction e with
 | zero=>intro ht;obtain rfl:d=0:=by omega
         exact ht
 | succ e ih=>
   intro ht
   rcases Nat.lt_or_ge d (e+1) with h1|h1
   ·exact Cv t e (ih (by omega) ht)
   ·obtain rfl:d=e+1:=by omega
    exact ht
structure sZ(m:Nat)(a:Atom):Prop where
 len:a.nums.length=a.times.length
 few:a.nums.length≤m
 sh:∀t∈a.nums,bO t 4=true
theorem SM{m:Nat}{a:Atom}{t:Term}(h:sZ m a)(ht:bO t 4=true)(n:Int):sZ (m+1) (YM a t n):=by
 obtain⟨h1,h2⟩:=JC t n a.nums a.times false
 exact⟨h1,by have:=h.few;simp only[Bool.false_eq_true,if_false] at h2;simp only[YM];omega,Nh (P:=fun t=>bO t 4=true) ht _ _ _ h.sh⟩
theorem yL{b:List Int}(hb:yU b){p:Int}(h1:0≤p){l:List Int}(hl:l≠[])(hd:∀x∈l,1≤x∧x≤4):∃d:Nat,jV b p l=d∧1≤d∧d≤4:=by
 have:=hd _ (xK hb h1 hl)
 exact⟨(jV b p l).toNat,by omega,by omega,by omega⟩
theorem O6{d e:Nat}(h:d≤e):(2:Int) ^ d≤2 ^ e:=by
 have:=Nat.pow_le_pow_right (n:=2) (by omega) h
 have e1:(2:Int) ^ d=((2 ^ d:Nat):Int):=by simp
 have e2:(2:Int) ^ e=((2 ^ e:Nat):Int):=by simp
 rw[e1,e2]
 exact Int.ofNat_le.2 this
theorem Bm{b:List Int}{s:dK}(h:fM s){d:Nat}(hd:d≤4)(sort p:Int):p≤(hY b s d sort p).2∧(hY b s d sort p).2≤p+15:=by
 have h1:=GZ (b:=b) h d sort p
 have h2:=O6 hd
 omega
theorem Jz{b:List Int}(hb:yU b){s:dK}(h:fM s){a:Atom}{p:Int}(hp:0≤p):p≤(lG b s a p).2∧(lG b s a p).2≤p+17:=by
 obtain⟨d,e,h1,h2⟩:=yL hb hp (l:=[1,1,2]) (by simp) (by decide)
 have:=Bm (b:=b) h h2 1 (p+1)
 simp only[lG,e,bn]
 omega
theorem B5{b:List Int}(hb:yU b){s:dK}(h:fM s){m:Nat}{a:Atom}{p:Int}(hp:0≤p)(ha:sZ m a):sZ (m+1) (lG b s a p).1:=by
 obtain⟨d,e,h1,h2⟩:=yL hb hp (l:=[1,1,2]) (by simp) (by decide)
 simp only[lG,e,bn]
 exact SM ha (JT h2 (Ac hb h d 1 (p+1) (by omega) h1)) _
theorem VY{b:List Int}(hb:yU b){s:dK}(h:fM s):∀(n m:Nat)(a:Atom)(p:Int),0≤p→sZ m a→p≤(uv (lG b s) n a p).2∧(uv (lG b s) n a p).2≤p+n*17∧sZ (m+n) (uv (lG b s) n a p).1
 | 0,m,a,p,hp,ha=>by simpa[uv] using ha
 | n+1,m,a,p,hp,ha=>by
   have h1:=Jz hb h (a:=a) hp
   have h2:=VY hb h n (m+1) (lG b s a p).1 (lG b s a p).2 (by omega) (B5 hb h hp ha)
   simp only[uv]
   refine⟨by omega,by omega,?_⟩
   have:=h2.2.2
   rwa [show m+1+n=m+(n+1) by omega] at this
theorem Pm{b:List Int}(hb:yU b){s:dK}(h:fM s){p:Int}(hp:0≤p):p≤(nV b s p).2∧(nV b s p).2≤p+60∧sZ 3 (nV b s p).1:=by
 unfold nV
 split
 ·obtain⟨d,e,h1,h2⟩:=yL hb (p:=p+2) (by omega) (l:=[1,2]) (by simp) (by decide)
  have k1:=Bm (b:=b) h h2 (dk b (p+1) 2) (p+3)
  simp only[e,bn]
  generalize hY b s d (dk b (p+1) 2) (p+3)=x at k1⊢
  obtain⟨d2,e2,h3,h4⟩:=yL hb (p:=x.2) (by omega) (l:=[1,1,2]) (by simp) (by decide)
  have k2:=Bm (b:=b) h h4 (dk b (p+1) 2) (x.2+1)
  simp only[e2,bn]
  exact⟨by omega,by omega,⟨rfl,by simp,by simp⟩⟩
 ·have hm:=xK hb (p:=p+3) (l:=[1,2,2,3]) (by omega) (by simp)
  have hk:(jV b (p+3) [1,2,2,3]).toNat≤3:=by
   simp only[ay,List.not_mem_nil,or_false] at hm
   omega
  have:=VY hb h (jV b (p+3) [1,2,2,3]).toNat 0 ⟨2,aM,aM,[],[],jV b (p+1) [0,1,-1,2,3,-4],decide (dk b (p+2) 3=0)⟩ (p+4) (by omega) ⟨rfl,by simp,by simp⟩
  refine⟨by omega,by omega,this.2.2.len,?_,this.2.2.sh⟩
  have:=this.2.2.few
  omega
def Dp(b:List Int)(s:dK)(p:Int):Atom×Int:=
 let r:=nV b s p
 let a:=r.1
 let c:=dk b r.2 80
 if c=0 then(⟨jV b (r.2+1) [0,3,1,2],a.A,a.B,a.nums,a.times,a.bound,a.strict⟩,r.2+2) else
 if c=1 then(⟨a.kind,a.A,a.B,a.nums,a.times,jV b (r.2+1) [1001,-9223372036854775808,5],a.strict⟩,r.2+2) else
 if c=2 then(⟨a.kind,(JL b s (r.2+1)).1,a.B,a.nums,a.times,a.bound,a.strict⟩,(JL b s (r.2+1)).2) else
 if c=3 then(if 0<a.times.length then(⟨a.kind,a.A,a.B,a.nums,a.times.set 0 (jV b (r.2+1) [0,51,-9223372036854775808]),a.bound,a.strict⟩,r.2+2) else(a,r.2+1)) else
 if c=4 then(⟨a.kind,a.A,a.B,a.nums++[(hY b s 1 1 (r.2+1)).1],a.times,a.bound,a.strict⟩,(hY b s 1 1 (r.2+1)).2) else(a,r.2+1)
def US(b:List Int)(atoms:List Atom):Nat→Int→Form×Int
 | 0,p=>(abg,p)
 | d+1,p=>
   if d=0 then(.mk 1 ⟨atoms.getD (dk b p atoms.length).toNat xh,decide (dk b (p+1) 3=0)⟩ [],p+2) else
   if dk b p 4=0 then(.mk 1 ⟨atoms.getD (dk b (p+1) atoms.length).toNat xh,decide (dk b (p+2) 3=0)⟩ [],p+3) else
   let k:=jV b (p+1) [3,4,4,5,3,6,2]
   let r:=mu (fun(_:Unit) q=>US b atoms d q) (aS (Uf k).toNat ()) (p+2)
   (.mk k ED r.1,r.2)
mutual
def nodes:Form→Nat
 | .mk _ _ ks=>1+WN ks
def WN:List Form→Nat
 | []=>0
 | t::ts=>nodes t+WN ts
end
def Ux(b:List Int)(s:dK)(out:List Atom)(p:Int):List Atom×Int:=
 (if fe s (plain (out++[(nV b s p).1])) then(if Ly out (nV b s p).1<0 then out++[(nV b s p).1] else out) else out,(nV b s p).2)
def Z7:Atom:=⟨1,.mk [97] [],.mk [97] [],[],[],0,false⟩
def YR(b:List Int)(s:dK)(p:Int):List Atom×Int:=
 let r:=uv (Ux b s) (jV b p [2,3,4,5,1]).toNat [] (p+1)
 (if r.1.length=0 then r.1++[Z7] else r.1,r.2)
def abk(b:List Int)(p:Int):dK×Form×Int:=
 let s:=(NZ b p).1
 let a:=YR b s (p+1)
 let r:=US b a.1 (jV b a.2 [3,4,2,3,1]).toNat (a.2+1)
 (s,r.1,r.2)
def Y2(b:List Int)(p:Int):dK×Form×Int:=
 let r:=abk b p
 let f:=r.2.1
 let q:=r.2.2
 let c:=dk b q 64
 if c=0 then(r.1,.mk (jV b (q+1) [0,7,1,2,3]) f.lit f.kids,q+2) else
 if c=1 then(r.1,.mk f.kind f.lit (f.kids++[f]),q+1) else
 if c=2 then(r.1,.mk f.kind ⟨(Dp b r.1 (q+1)).1,false⟩ f.kids,(Dp b r.1 (q+1)).2) else
 if c=3 then((ji b (ji b r.1 (q+1)).1 (ji b r.1 (q+1)).2).1,f,(ji b (ji b r.1 (q+1)).1 (ji b r.1 (q+1)).2).2) else(r.1,f,q+1)
def aaO(b:List Int)(n:Nat)(p:Int):List Bool×Int:=
 let r:=mu (fun(_:Unit) q=>(decide (dk b q 2=0),q+1)) (aS n ()) p
 (if dk b r.2 30=0 then r.1++[true] else r.1,r.2+1)
def VE(b:List Int)(told:List Atom)(out:List Form)(p:Int):List Form×Int:=
 let r:=US b told (jV b p [2,3,1]).toNat (p+1)
 (out++[r.1],r.2)
def Vc(b:List Int)(told:List Atom):Nat→List Form→Int→List Form×Int
 | 0,l,p=>(l,p)
 | n+1,l,p=>Vc b told n (l++[(US b told 1 p).1]) (US b told 1 p).2
def VN(b:List Int)(p:Int):dK×List Form×Int:=
 let s:=(NZ b p).1
 let a:=YR b s (p+1)
 let r:=uv (VE b a.1) (jV b a.2 [2,3,1,4,0]).toNat [] (a.2+1)
 let c:=dk b r.2 48
 if c=0 then(s,r.1++[(Y2 b (r.2+1)).2.1],(Y2 b (r.2+1)).2.2) else
 if c=1 then(s,(Vc b a.1 (6-r.1.length) r.1 (r.2+1)).1,(Vc b a.1 (6-r.1.length) r.1 (r.2+1)).2) else
 if c=2 then((ji b (ji b s (r.2+1)).1 (ji b s (r.2+1)).2).1,r.1,(ji b (ji b s (r.2+1)).1 (ji b s (r.2+1)).2).2) else(s,r.1,r.2+1)
def YT(b:List Int):List Form×List Bool:=((VN b 0).2.1,(aaO b (Ar [] (VN b 0).2.1).length (VN b 0).2.2).1)
end Go.Mod
