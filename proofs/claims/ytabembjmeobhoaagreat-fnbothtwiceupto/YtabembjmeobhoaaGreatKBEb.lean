/-
  What is drawn from a code, in plain Lean: words, terms, atoms, forms. No program is walked here.
-/
import Derived.Test.YtabembjmeobhoaaGreatKBDa
import Derived.Test.YtabembjmeobhoaaGreatKBEa
import Derived.Lib.SlicesCompact
set_option linter.unusedVariables false
set_option linter.unusedSimpArgs false
open Bool renaming and_eq_true→ai,true_and→aM
open Int renaming toNat_natCast→bo,tmod_lt_of_pos→nV
open List renaming getElem?_eq_getElem→ah,getElem_mem→ak,mem_cons→ay,getD_eq_getElem?_getD→az,replicate→aW,mem_of_getElem?→cM,mem_singleton→cW
namespace Go.Mod
open Go.Eng
structure x6(b:List Int):Prop where
 len:b.length≤2000
 byte:∀x∈b,0≤x∧x≤255
theorem x6.getD{b:List Int}(h:x6 b)(i:Nat):0≤b.getD i 0∧b.getD i 0≤255:=by
 rw[az]
 cases hx:b[i]? with
 | none=>simp
 | some x=>exact h.byte x (cM hx)
def tZ(b:List Int)(p:Int):Int:=b.getD (p.tmod b.length).toNat 0*131+b.getD ((p*7+3).tmod b.length).toNat 0*1117+p*29+p.tdiv b.length*53
def de(b:List Int)(p n:Int):Int:=
 if n<1 then 0 else if b.length=0 then 0 else
 if p<b.length then(b.getD p.toNat 0).tmod n else(LH (tZ b p) ((tZ b p).tdiv 64)).tmod n
def jR(b:List Int)(p:Int)(l:List Int):Int:=l.getD (de b p l.length).toNat 0
def Q0(b:List Int)(p:Int)(l:List ni):ni:=l.getD (de b p l.length).toNat []
theorem XM{b:List Int}(h:x6 b){p:Int}(h1:0≤p)(h2:p≤1000000000)(h3:b.length≠0):0≤p.tdiv b.length∧p.tdiv b.length≤p∧0≤tZ b p∧tZ b p≤1000000000000:=by
 have e1:=h.getD (p.tmod b.length).toNat
 have e2:=h.getD ((p*7+3).tmod b.length).toNat
 have e3:0≤p.tdiv b.length:=Int.tdiv_nonneg h1 (Int.natCast_nonneg _)
 have e4:p.tdiv b.length≤p:=by
  rw[Int.tdiv_eq_ediv_of_nonneg h1]
  exact Int.ediv_le_self _ h1
 refine⟨e3,e4,?_,?_⟩<;>(unfold tZ;omega)
theorem Wi{b:List Int}(h:x6 b){p n:Int}(h1:0≤p)(hn:1≤n):0≤de b p n∧de b p n<n:=by
 unfold de
 rw[if_neg (by omega)]
 split
 ·omega
 ·split
  ·have:=h.getD p.toNat
   exact⟨Int.tmod_nonneg _ this.1,nV _ (by omega)⟩
  ·exact⟨Int.tmod_nonneg _ (WG _ _),nV _ (by omega)⟩
theorem vi{b:List Int}(h:x6 b){p:Int}{n:Nat}(h1:0≤p)(hn:1≤n):∃k:Nat,de b p n=k∧k<n:=by
 have:=Wi h (p:=p) (n:=n) h1 (by omega)
 exact⟨(de b p n).toNat,by omega,by omega⟩
theorem wU{b:List Int}(h:x6 b){p:Int}{l:List Int}(h1:0≤p)(hl:l≠[]):jR b p l∈l:=by
 have hn:1≤l.length:=by cases l with|nil=>exact(hl rfl).elim|cons=>simp
 obtain⟨k,e,hk⟩:=vi h (n:=l.length) h1 hn
 unfold jR
 rw[e,bo,az,ah hk]
 exact ak hk
theorem XU{b:List Int}(h:x6 b){p:Int}{l:List ni}(h1:0≤p)(hl:l≠[]):Q0 b p l∈l:=by
 have hn:1≤l.length:=by cases l with|nil=>exact(hl rfl).elim|cons=>simp
 obtain⟨k,e,hk⟩:=vi h (n:=l.length) h1 hn
 unfold Q0
 rw[e,bo,az,ah hk]
 exact ak hk
def mo{α β:Type}(f:α→Int→β×Int):List α→Int→List β×Int
 | [],p=>([],p)
 | a::as,p=>((f a p).1::(mo f as (f a p).2).1,(mo f as (f a p).2).2)
theorem I8{α β:Type}(f:α→Int→β×Int)(x:α):∀(as:List α)(p:Int),mo f (as++[x]) p=((mo f as p).1++[(f x (mo f as p).2).1],(f x (mo f as p).2).2)
 | [],p=>rfl
 | a::as,p=>by simp only[List.cons_append,mo,I8 f x as]
theorem Sq{α β:Type}(f:α→Int→β×Int){as:List α}{i:Nat}(h:i<as.length)(p:Int):mo f (as.take (i+1)) p=((mo f (as.take i) p).1++[(f as[i] (mo f (as.take i) p).2).1],(f as[i] (mo f (as.take i) p).2).2):=by
 have e:as.take (i+1)=as.take i++[as[i]]:=by rw[List.take_add_one,ah h];rfl
 rw[e,I8]
theorem Ow{α β:Type}{f:α→Int→β×Int}{c:Int}(hf:∀a p,p≤(f a p).2∧(f a p).2≤p+c):∀(as:List α)(p:Int),p≤(mo f as p).2∧(mo f as p).2≤p+as.length*c
 | [],p=>by simp[mo]
 | a::as,p=>by
   have h1:=hf a p
   have h2:=Ow hf as (f a p).2
   simp only[mo,List.length_cons]
   have:((as.length+1:Nat):Int)*c=as.length*c+c:=by rw[Int.natCast_add,Int.add_mul];simp
   omega
theorem AN{α β:Type}(f:α→Int→β×Int):∀(as:List α)(p:Int),(mo f as p).1.length=as.length
 | [],_=>rfl
 | a::as,p=>by simp[mo,AN f as]
def tQ{α:Type}(f:α→Int→α×Int):Nat→α→Int→α×Int
 | 0,a,p=>(a,p)
 | n+1,a,p=>tQ f n (f a p).1 (f a p).2
def Bu(k:Int):dE:=
 if k=0 then⟨[⟨[97],[],0⟩,⟨[98],[],0⟩,⟨[99],[],0⟩,⟨[102],[0],0⟩,⟨[103],[0,0],0⟩]⟩ else
 if k=1 then⟨[⟨[97],[],0⟩,⟨[98],[],0⟩,⟨[104],[0],1⟩,⟨[120],[],1⟩,⟨[121],[],1⟩]⟩ else
 if k=2 then⟨[⟨[107],[1],1⟩,⟨[120],[],1⟩,⟨[121],[],1⟩,⟨[122],[],1⟩]⟩ else
 if k=3 then⟨[⟨[97],[],0⟩,⟨[117],[1],0⟩,⟨[118],[1,0],1⟩,⟨[120],[],1⟩,⟨[121],[],1⟩]⟩ else⟨[]⟩
def Ms(b:List Int)(p:Int):dE×Int:=(Bu (jR b p [0,0,1,1,2,3,1,4]),p+1)
def fC(s:dE):Prop:=s.syms.length≤7∧∀x∈s.syms,x.args.length≤2∧fE x.name=true
instance(s:dE):Decidable (fC s):=by unfold fC;infer_instance
theorem O9(k:Int):fC (Bu k):=by
 unfold Bu
 split
 ·decide
 ·split
  ·decide
  ·split
   ·decide
   ·split<;>decide
def abq(b:List Int)(p:Int)(x:Sym):Sym:=⟨Q0 b p [[],[65],[97,98,99],[122,122],[97]],x.args,x.sort⟩
def vI(b:List Int):Nat→List Sym→Int→List Sym×Int
 | 0,l,p=>(l,p)
 | n+1,l,p=>vI b n (l++[⟨122::Q0 b p [[97],[98],[122]],[],0⟩]) (p+1)
def jj(b:List Int)(s:dE)(p:Int):dE×Int:=
 if s.syms.length=0 then(s,p) else
 if 0<de b p 8 then(s,p+1) else
 let k:=(de b (p+1) s.syms.length).toNat
 let c:=de b (p+2) 5
 let x:=s.syms.getD k ⟨[],[],0⟩
 if c=0 then(⟨s.syms.set k ⟨Q0 b (p+3) [[],[65],[97,98,99],[122,122],[97]],x.args,x.sort⟩⟩,p+4) else
 if c=1 then(⟨s.syms.set k ⟨x.name,x.args++[jR b (p+3) [0,2,-1,1]],x.sort⟩⟩,p+4) else
 if c=2 then(⟨s.syms.set k ⟨x.name,x.args,jR b (p+3) [1,2,-1,0]⟩⟩,p+4) else
 if c=3 then(⟨s.syms++[x]⟩,p+3) else
 (⟨(vI b (8-s.syms.length) s.syms (p+3)).1⟩,(vI b (8-s.syms.length) s.syms (p+3)).2)
theorem K7(b:List Int):∀(n:Nat)(l:List Sym)(p:Int),(vI b n l p).2=p+n∧(vI b n l p).1.length=l.length+n
 | 0,_,_=>by simp[vI]
 | n+1,l,p=>by
   obtain⟨h1,h2⟩:=K7 b n (l++[⟨122::Q0 b p [[97],[98],[122]],[],0⟩]) (p+1)
   simp only[vI,h1,h2,List.length_append,List.length_singleton]
   omega
theorem Wq(b:List Int)(s:dE)(p:Int):p≤(jj b s p).2∧(jj b s p).2≤p+20:=by
 have h1:=(K7 b (8-s.syms.length) s.syms (p+3)).1
 unfold jj
 simp only
 repeat' split
 all_goals(simp only[h1];omega)
def mE(s:dE)(sort:Int)(dp:Nat):List Sym:=s.syms.filter fun x=>decide (x.sort=sort)&&(decide (1<dp)||decide (x.args.length=0))
def hQ(b:List Int)(s:dE):Nat→Int→Int→Term×Int
 | 0,_,p=>(.mk [113] [],p)
 | d+1,sort,p=>
   if(mE s sort (d+1)).length=0 then(.mk [113] [],p) else
   let x:=(mE s sort (d+1)).getD (de b p (mE s sort (d+1)).length).toNat so
   (.mk x.name (mo (hQ b s d) x.args (p+1)).1,(mo (hQ b s d) x.args (p+1)).2)
theorem vC{s:dE}{sort:Int}{d:Nat}{i:Nat}(h:fC s):((mE s sort d).getD i so).args.length≤2∧(i<(mE s sort d).length→fE ((mE s sort d).getD i so).name=true∧(d≤1→((mE s sort d).getD i so).args=[])):=by
 rw[az]
 cases hx:(mE s sort d)[i]? with
 | none=>simp only[Option.getD_none];exact⟨by decide,fun hi=>by rw[ah hi] at hx;cases hx⟩
 | some x=>
   simp only[Option.getD_some]
   have hm:=cM hx
   rw[mE,List.mem_filter] at hm
   obtain⟨h1,h2⟩:=h.2 x hm.1
   refine⟨h1,fun _=>⟨h2,fun hd=>?_⟩⟩
   have:=hm.2
   simp only[ai,Bool.or_eq_true,decide_eq_true_eq] at this
   rcases this.2 with h3|h3
   ·omega
   ·exact List.eq_nil_of_length_eq_zero h3
theorem two_pow_pos(d:Nat):(1:Int)≤2 ^ d∧(2:Int) ^ (d+1)=2*2 ^ d:=by
 have h:=Nat.one_le_two_pow (n:=d)
 have e:(2:Int) ^ d=((2 ^ d:Nat):Int):=by simp
 exact⟨by omega,by rw[Int.pow_succ,Int.mul_comm]⟩
theorem E1{b:List Int}{s:dE}(h:fC s):∀(d:Nat)(sort p:Int),p≤(hQ b s d sort p).2∧(hQ b s d sort p).2≤p+(2 ^ d-1)
 | 0,_,p=>by simp[hQ]
 | d+1,sort,p=>by
   have ih:=E1 (b:=b) h d
   obtain⟨hp,hp2⟩:=two_pow_pos d
   simp only[hQ]
   split
   ·simp only;omega
   ·have h1:=(vC (sort:=sort) (d:=d+1) (i:=(de b p (mE s sort (d+1)).length).toNat) h).1
    generalize (mE s sort (d+1)).getD (de b p (mE s sort (d+1)).length).toNat so=x at h1⊢
    have h2:=Ow (f:=hQ b s d) (c:=2 ^ d-1) (fun a p=>ih a p) x.args (p+1)
    have h3:(x.args.length:Int)*(2 ^ d-1)≤2*(2 ^ d-1):=Int.mul_le_mul_of_nonneg_right (by omega) (by omega)
    simp only
    omega
theorem Gx{d:Nat}:∀{ts:List Term},(∀t∈ts,bK t d=true)→cG ts d=true
 | [],_=>by simp[cG]
 | t::ts,h=>by
   simp only[cG,h t (by simp),aM]
   exact Gx fun u hu=>h u (by simp[hu])
theorem zt{b:List Int}(hb:x6 b){s:dE}(h:fC s):∀(d:Nat)(sort p:Int),0≤p→1≤d→bK (hQ b s d sort p).1 d=true
 | 0,_,_,_,hd=>by omega
 | d+1,sort,p,hp,_=>by
   simp only[hQ]
   split
   ·simp only[bK,cG,List.length_nil]
    decide
   ·rename_i jv
    have hn:1≤(mE s sort (d+1)).length:=by omega
    obtain⟨k,e,hk⟩:=vi hb (p:=p) hp hn
    have h1:=vC (sort:=sort) (d:=d+1) (i:=k) h
    rw[e,bo]
    generalize (mE s sort (d+1)).getD k so=x at h1⊢
    obtain⟨h2,h3⟩:=h1
    obtain⟨h3,h4⟩:=h3 hk
    simp only[bK,h3,aM,ai,decide_eq_true_eq]
    refine⟨by rw[AN];exact h2,?_⟩
    rcases Nat.eq_zero_or_pos d with rfl|hd
    ·rw[h4 (Nat.le_refl 1)]
     simp[mo,cG]
    ·refine Gx fun t ht=>?_
     have key:∀(as:List Int)(q:Int),0≤q→∀t∈(mo (hQ b s d) as q).1,bK t d=true:=by
      intro as
      induction as with
      | nil=>intro q _ t h;simp[mo] at h
      | cons a as ih=>
        intro q hq t ht
        simp only[mo,ay] at ht
        rcases ht with rfl|ht
        ·exact zt hb h d a q hq hd
        ·exact ih _ (by have:=(E1 (b:=b) h d a q).1;omega) t ht
     exact key _ _ (by omega) t ht
def IU(b:List Int)(s:dE)(p:Int):Term×Int:=
 let r:=hQ b s (jR b (p+1) [2,3,1,4]).toNat (de b p 2) (p+2)
 let c:=de b r.2 48
 if c=0 then(.mk (Q0 b (r.2+1) [[],[65],[97,98,99],[102]]) r.1.kids,r.2+2) else
 if c=1 then(.mk r.1.name (r.1.kids++[r.1]),r.2+1) else
 if c=2 then(.mk r.1.name (r.1.kids++[r.1,r.1]),r.2+1) else(r.1,r.2+1)
def lh(t:Term)(n:Int):List Term→List Int→Bool→List Term×List Int
 | u::us,k::ks,done=>
   let now:=!done&& !gn (aN u) (aN t)
   let own:=decide (aN u≠aN t)
   let r:=lh t n us ks (done||now)
   ((if now then [t] else [])++((if own then [u] else [])++r.1),(if now then [n] else [])++((if own then [k] else [])++r.2))
 | _,_,done=>if done then([],[]) else([t],[n])
def WE(a:Atom)(t:Term)(n:Int):Atom:=⟨a.kind,aL,aL,(lh t n a.nums a.times false).1,(lh t n a.nums a.times false).2,a.bound,a.strict⟩
theorem IT(t:Term)(n:Int):∀(us:List Term)(ks:List Int)(d:Bool),(lh t n us ks d).1.length=(lh t n us ks d).2.length∧(lh t n us ks d).1.length≤us.length+(if d then 0 else 1)
 | u::us,k::ks,d=>by
   simp only[lh]
   generalize decide (aN u≠aN t)=o
   generalize gn (aN u) (aN t)=q
   have h:=IT t n us ks (d||(!d&& !q))
   generalize lh t n us ks (d||(!d&& !q))=r at h
   cases d<;>cases q<;>cases o<;>simp at h⊢<;>omega
 | [],_,d=>by cases d<;>simp[lh]
 | _::_,[],d=>by cases d<;>simp[lh]
def lr(b:List Int)(s:dE)(a:Atom)(p:Int):Atom×Int:=
 let r:=hQ b s (jR b p [1,1,2]).toNat 1 (p+1)
 (WE a r.1 (jR b r.2 [1,-1,1,-1,2,-2]),r.2+1)
def nM(b:List Int)(s:dE)(p:Int):Atom×Int:=
 if de b p 2=0 then
  let x:=hQ b s (jR b (p+2) [1,2]).toNat (de b (p+1) 2) (p+3)
  let y:=hQ b s (jR b x.2 [1,1,2]).toNat (de b (p+1) 2) (x.2+1)
  (⟨1,x.1,y.1,[],[],0,false⟩,y.2)
 else tQ (lr b s) (jR b (p+3) [1,2,2,3]).toNat ⟨2,aL,aL,[],[],jR b (p+1) [0,1,-1,2,3,-4],decide (de b (p+2) 3=0)⟩ (p+4)
theorem NO{P:Term→Prop}{t:Term}{n:Int}(ht:P t):∀(us:List Term)(ks:List Int)(d:Bool),(∀u∈us,P u)→∀u∈(lh t n us ks d).1,P u
 | u::us,k::ks,d,h,v,hv=>by
   have ih:=NO (n:=n) ht us ks (d||(!d&& !gn (aN u) (aN t))) (fun w hw=>h w (by simp[hw]))
   simp only[lh,List.mem_append] at hv
   rcases hv with hv|hv|hv
   ·split at hv
    ·simp only[cW] at hv;rw[hv];exact ht
    ·simp at hv
   ·split at hv
    ·simp only[cW] at hv;rw[hv];exact h u (by simp)
    ·simp at hv
   ·exact ih v hv
 | [],_,d,_,v,hv=>by
   cases d<;>simp[lh] at hv
   rw[hv];exact ht
 | _::_,[],d,_,v,hv=>by
   cases d<;>simp[lh] at hv
   rw[hv];exact ht
theorem Ik{t:Term}:∀{d e:Nat},d≤e→bK t d=true→bK t e=true:=by
 intro d e h
 induction e with
 | zero=>intro ht;obtain rfl:d=0:=by omega
         exact ht
 | succ e ih=>
   intro ht
   rcases Nat.lt_or_ge d (e+1) with h1|h1
   ·exact Cg t e (ih (by omega) ht)
   ·obtain rfl:d=e+1:=by omega
    exact ht
structure tg(m:Nat)(a:Atom):Prop where
 len:a.nums.length=a.times.length
 few:a.nums.length≤m
 sh:∀t∈a.nums,bK t 4=true
theorem SL{m:Nat}{a:Atom}{t:Term}(h:tg m a)(ht:bK t 4=true)(n:Int):tg (m+1) (WE a t n):=by
 obtain⟨h1,h2⟩:=IT t n a.nums a.times false
 exact⟨h1,by have:=h.few;simp only[Bool.false_eq_true,if_false] at h2;simp only[WE];omega,NO (P:=fun t=>bK t 4=true) ht _ _ _ h.sh⟩
theorem xK{b:List Int}(hb:x6 b){p:Int}(h1:0≤p){l:List Int}(hl:l≠[])(hd:∀x∈l,1≤x∧x≤4):∃d:Nat,jR b p l=d∧1≤d∧d≤4:=by
 have:=hd _ (wU hb h1 hl)
 exact⟨(jR b p l).toNat,by omega,by omega,by omega⟩
theorem Oj{d e:Nat}(h:d≤e):(2:Int) ^ d≤2 ^ e:=by
 have:=Nat.pow_le_pow_right (n:=2) (by omega) h
 have e1:(2:Int) ^ d=((2 ^ d:Nat):Int):=by simp
 have e2:(2:Int) ^ e=((2 ^ e:Nat):Int):=by simp
 rw[e1,e2]
 exact Int.ofNat_le.2 this
theorem A7{b:List Int}{s:dE}(h:fC s){d:Nat}(hd:d≤4)(sort p:Int):p≤(hQ b s d sort p).2∧(hQ b s d sort p).2≤p+15:=by
 have h1:=E1 (b:=b) h d sort p
 have h2:=Oj hd
 omega
theorem Ia{b:List Int}(hb:x6 b){s:dE}(h:fC s){a:Atom}{p:Int}(hp:0≤p):p≤(lr b s a p).2∧(lr b s a p).2≤p+17:=by
 obtain⟨d,e,h1,h2⟩:=xK hb hp (l:=[1,1,2]) (by simp) (by decide)
 have:=A7 (b:=b) h h2 1 (p+1)
 simp only[lr,e,bo]
 omega
theorem A6{b:List Int}(hb:x6 b){s:dE}(h:fC s){m:Nat}{a:Atom}{p:Int}(hp:0≤p)(ha:tg m a):tg (m+1) (lr b s a p).1:=by
 obtain⟨d,e,h1,h2⟩:=xK hb hp (l:=[1,1,2]) (by simp) (by decide)
 simp only[lr,e,bo]
 exact SL ha (Ik h2 (zt hb h d 1 (p+1) (by omega) h1)) _
theorem Ux{b:List Int}(hb:x6 b){s:dE}(h:fC s):∀(n m:Nat)(a:Atom)(p:Int),0≤p→tg m a→p≤(tQ (lr b s) n a p).2∧(tQ (lr b s) n a p).2≤p+n*17∧tg (m+n) (tQ (lr b s) n a p).1
 | 0,m,a,p,hp,ha=>by simpa[tQ] using ha
 | n+1,m,a,p,hp,ha=>by
   have h1:=Ia hb h (a:=a) hp
   have h2:=Ux hb h n (m+1) (lr b s a p).1 (lr b s a p).2 (by omega) (A6 hb h hp ha)
   simp only[tQ]
   refine⟨by omega,by omega,?_⟩
   have:=h2.2.2
   rwa [show m+1+n=m+(n+1) by omega] at this
theorem OH{b:List Int}(hb:x6 b){s:dE}(h:fC s){p:Int}(hp:0≤p):p≤(nM b s p).2∧(nM b s p).2≤p+60∧tg 3 (nM b s p).1:=by
 unfold nM
 split
 ·obtain⟨d,e,h1,h2⟩:=xK hb (p:=p+2) (by omega) (l:=[1,2]) (by simp) (by decide)
  have k1:=A7 (b:=b) h h2 (de b (p+1) 2) (p+3)
  simp only[e,bo]
  generalize hQ b s d (de b (p+1) 2) (p+3)=x at k1⊢
  obtain⟨d2,e2,h3,h4⟩:=xK hb (p:=x.2) (by omega) (l:=[1,1,2]) (by simp) (by decide)
  have k2:=A7 (b:=b) h h4 (de b (p+1) 2) (x.2+1)
  simp only[e2,bo]
  exact⟨by omega,by omega,⟨rfl,by simp,by simp⟩⟩
 ·have hm:=wU hb (p:=p+3) (l:=[1,2,2,3]) (by omega) (by simp)
  have hk:(jR b (p+3) [1,2,2,3]).toNat≤3:=by
   simp only[ay,List.not_mem_nil,or_false] at hm
   omega
  have:=Ux hb h (jR b (p+3) [1,2,2,3]).toNat 0 ⟨2,aL,aL,[],[],jR b (p+1) [0,1,-1,2,3,-4],decide (de b (p+2) 3=0)⟩ (p+4) (by omega) ⟨rfl,by simp,by simp⟩
  refine⟨by omega,by omega,this.2.2.len,?_,this.2.2.sh⟩
  have:=this.2.2.few
  omega
def CX(b:List Int)(s:dE)(p:Int):Atom×Int:=
 let r:=nM b s p
 let a:=r.1
 let c:=de b r.2 80
 if c=0 then(⟨jR b (r.2+1) [0,3,1,2],a.A,a.B,a.nums,a.times,a.bound,a.strict⟩,r.2+2) else
 if c=1 then(⟨a.kind,a.A,a.B,a.nums,a.times,jR b (r.2+1) [1001,-9223372036854775808,5],a.strict⟩,r.2+2) else
 if c=2 then(⟨a.kind,(IU b s (r.2+1)).1,a.B,a.nums,a.times,a.bound,a.strict⟩,(IU b s (r.2+1)).2) else
 if c=3 then(if 0<a.times.length then(⟨a.kind,a.A,a.B,a.nums,a.times.set 0 (jR b (r.2+1) [0,51,-9223372036854775808]),a.bound,a.strict⟩,r.2+2) else(a,r.2+1)) else
 if c=4 then(⟨a.kind,a.A,a.B,a.nums++[(hQ b s 1 1 (r.2+1)).1],a.times,a.bound,a.strict⟩,(hQ b s 1 1 (r.2+1)).2) else(a,r.2+1)
def Ty(b:List Int)(atoms:List Atom):Nat→Int→Form×Int
 | 0,p=>(ZZ,p)
 | d+1,p=>
   if d=0 then(.mk 1 ⟨atoms.getD (de b p atoms.length).toNat wx,decide (de b (p+1) 3=0)⟩ [],p+2) else
   if de b p 4=0 then(.mk 1 ⟨atoms.getD (de b (p+1) atoms.length).toNat wx,decide (de b (p+2) 3=0)⟩ [],p+3) else
   let k:=jR b (p+1) [3,4,4,5,3,6,2]
   let r:=mo (fun(_:Unit) q=>Ty b atoms d q) (aW (Vp k).toNat ()) (p+2)
   (.mk k Dq r.1,r.2)
mutual
def nodes:Form→Nat
 | .mk _ _ ks=>1+VQ ks
def VQ:List Form→Nat
 | []=>0
 | t::ts=>nodes t+VQ ts
end
def TS(b:List Int)(s:dE)(out:List Atom)(p:Int):List Atom×Int:=
 (if eZ s (plain (out++[(nM b s p).1])) then(if KT out (nM b s p).1<0 then out++[(nM b s p).1] else out) else out,(nM b s p).2)
def Y7:Atom:=⟨1,.mk [97] [],.mk [97] [],[],[],0,false⟩
def Yo(b:List Int)(s:dE)(p:Int):List Atom×Int:=
 let r:=tQ (TS b s) (jR b p [2,3,4,5,1]).toNat [] (p+1)
 (if r.1.length=0 then r.1++[Y7] else r.1,r.2)
def Z5(b:List Int)(p:Int):dE×Form×Int:=
 let s:=(Ms b p).1
 let a:=Yo b s (p+1)
 let r:=Ty b a.1 (jR b a.2 [3,4,2,3,1]).toNat (a.2+1)
 (s,r.1,r.2)
def Yh(b:List Int)(p:Int):dE×Form×Int:=
 let r:=Z5 b p
 let f:=r.2.1
 let q:=r.2.2
 let c:=de b q 64
 if c=0 then(r.1,.mk (jR b (q+1) [0,7,1,2,3]) f.lit f.kids,q+2) else
 if c=1 then(r.1,.mk f.kind f.lit (f.kids++[f]),q+1) else
 if c=2 then(r.1,.mk f.kind ⟨(CX b r.1 (q+1)).1,false⟩ f.kids,(CX b r.1 (q+1)).2) else
 if c=3 then((jj b (jj b r.1 (q+1)).1 (jj b r.1 (q+1)).2).1,f,(jj b (jj b r.1 (q+1)).1 (jj b r.1 (q+1)).2).2) else(r.1,f,q+1)
def aat(b:List Int)(n:Nat)(p:Int):List Bool×Int:=
 let r:=mo (fun(_:Unit) q=>(decide (de b q 2=0),q+1)) (aW n ()) p
 (if de b r.2 30=0 then r.1++[true] else r.1,r.2+1)
def Vy(b:List Int)(told:List Atom)(out:List Form)(p:Int):List Form×Int:=
 let r:=Ty b told (jR b p [2,3,1]).toNat (p+1)
 (out++[r.1],r.2)
def Uv(b:List Int)(told:List Atom):Nat→List Form→Int→List Form×Int
 | 0,l,p=>(l,p)
 | n+1,l,p=>Uv b told n (l++[(Ty b told 1 p).1]) (Ty b told 1 p).2
def UG(b:List Int)(p:Int):dE×List Form×Int:=
 let s:=(Ms b p).1
 let a:=Yo b s (p+1)
 let r:=tQ (Vy b a.1) (jR b a.2 [2,3,1,4,0]).toNat [] (a.2+1)
 let c:=de b r.2 48
 if c=0 then(s,r.1++[(Yh b (r.2+1)).2.1],(Yh b (r.2+1)).2.2) else
 if c=1 then(s,(Uv b a.1 (6-r.1.length) r.1 (r.2+1)).1,(Uv b a.1 (6-r.1.length) r.1 (r.2+1)).2) else
 if c=2 then((jj b (jj b s (r.2+1)).1 (jj b s (r.2+1)).2).1,r.1,(jj b (jj b s (r.2+1)).1 (jj b s (r.2+1)).2).2) else(s,r.1,r.2+1)
def Yg(b:List Int):List Form×List Bool:=((UG b 0).2.1,(aat b (zw [] (UG b 0).2.1).length (UG b 0).2.2).1)
end Go.Mod
