/-
  What is drawn from a code, in plain Lean: words, terms, atoms, forms. No program is walked here.
-/
import Derived.Test.YtpidddienjoleaaGreatKDE
import Derived.Test.YtpidddienjoleaaGreatKDDa
import Derived.Test.YtpidddienjoleaaGreatKDEa
import Derived.Lib.SlicesCompact
set_option linter.unusedVariables false
set_option linter.unusedSimpArgs false
namespace Go.Mod
open Go.Eng
structure qz(b:List Int):Prop where
 len:b.length≤2000
 byte:∀x∈b,0≤x∧x≤255
theorem qz.getD{b:List Int}(h:qz b)(i:Nat):0≤b.getD i 0∧b.getD i 0≤255:=by
 rw[List.getD_eq_getElem?_getD]
 cases hx:b[i]? with
 | none=>simp
 | some x=>exact h.byte x (List.mem_of_getElem? hx)
def mS(b:List Int)(p:Int):Int:=b.getD (p.tmod b.length).toNat 0*131+b.getD ((p*7+3).tmod b.length).toNat 0*1117+p*29+p.tdiv b.length*53
def a6(b:List Int)(p n:Int):Int:=
 if n<1 then 0 else if b.length=0 then 0 else
 if p<b.length then(b.getD p.toNat 0).tmod n else(DR (mS b p) ((mS b p).tdiv 64)).tmod n
def dI(b:List Int)(p:Int)(l:List Int):Int:=l.getD (a6 b p l.length).toNat 0
def I5(b:List Int)(p:Int)(l:List gR):gR:=l.getD (a6 b p l.length).toNat []
theorem OY{b:List Int}(h:qz b){p:Int}(h1:0≤p)(h2:p≤1000000000)(h3:b.length≠0):0≤p.tdiv b.length∧p.tdiv b.length≤p∧0≤mS b p∧mS b p≤1000000000000:=by
 have e1:=h.getD (p.tmod b.length).toNat
 have e2:=h.getD ((p*7+3).tmod b.length).toNat
 have e3:0≤p.tdiv b.length:=Int.tdiv_nonneg h1 (Int.natCast_nonneg _)
 have e4:p.tdiv b.length≤p:=by
  rw[Int.tdiv_eq_ediv_of_nonneg h1]
  exact Int.ediv_le_self _ h1
 refine⟨e3,e4,?_,?_⟩<;>(unfold mS;omega)
theorem PE{b:List Int}(h:qz b){p n:Int}(h1:0≤p)(hn:1≤n):0≤a6 b p n∧a6 b p n<n:=by
 unfold a6
 rw[if_neg (by omega)]
 split
 ·omega
 ·split
  ·have:=h.getD p.toNat
   exact⟨Int.tmod_nonneg _ this.1,Int.tmod_lt_of_pos _ (by omega)⟩
  ·exact⟨Int.tmod_nonneg _ (Ox _ _),Int.tmod_lt_of_pos _ (by omega)⟩
theorem nZ{b:List Int}(h:qz b){p:Int}{n:Nat}(h1:0≤p)(hn:1≤n):∃k:Nat,a6 b p n=k∧k<n:=by
 have:=PE h (p:=p) (n:=n) h1 (by omega)
 exact⟨(a6 b p n).toNat,by omega,by omega⟩
theorem pa{b:List Int}(h:qz b){p:Int}{l:List Int}(h1:0≤p)(hl:l≠[]):dI b p l∈l:=by
 have hn:1≤l.length:=by cases l with|nil=>exact(hl rfl).elim|cons=>simp
 obtain⟨k,e,hk⟩:=nZ h (n:=l.length) h1 hn
 unfold dI
 rw[e,Int.toNat_natCast,List.getD_eq_getElem?_getD,List.getElem?_eq_getElem hk]
 exact List.getElem_mem hk
theorem O4{b:List Int}(h:qz b){p:Int}{l:List gR}(h1:0≤p)(hl:l≠[]):I5 b p l∈l:=by
 have hn:1≤l.length:=by cases l with|nil=>exact(hl rfl).elim|cons=>simp
 obtain⟨k,e,hk⟩:=nZ h (n:=l.length) h1 hn
 unfold I5
 rw[e,Int.toNat_natCast,List.getD_eq_getElem?_getD,List.getElem?_eq_getElem hk]
 exact List.getElem_mem hk
def fJ{α β:Type}(f:α→Int→β×Int):List α→Int→List β×Int
 | [],p=>([],p)
 | a::as,p=>((f a p).1::(fJ f as (f a p).2).1,(fJ f as (f a p).2).2)
theorem BQ{α β:Type}(f:α→Int→β×Int)(x:α):∀(as:List α)(p:Int),fJ f (as++[x]) p=((fJ f as p).1++[(f x (fJ f as p).2).1],(f x (fJ f as p).2).2)
 | [],p=>rfl
 | a::as,p=>by simp only[List.cons_append,fJ,BQ f x as]
theorem Kn{α β:Type}(f:α→Int→β×Int){as:List α}{i:Nat}(h:i<as.length)(p:Int):fJ f (as.take (i+1)) p=((fJ f (as.take i) p).1++[(f as[i] (fJ f (as.take i) p).2).1],(f as[i] (fJ f (as.take i) p).2).2):=by
 have e:as.take (i+1)=as.take i++[as[i]]:=by rw[List.take_add_one,List.getElem?_eq_getElem h];rfl
 rw[e,BQ]
theorem Hf{α β:Type}{f:α→Int→β×Int}{c:Int}(hf:∀a p,p≤(f a p).2∧(f a p).2≤p+c):∀(as:List α)(p:Int),p≤(fJ f as p).2∧(fJ f as p).2≤p+as.length*c
 | [],p=>by simp[fJ]
 | a::as,p=>by
   have h1:=hf a p
   have h2:=Hf hf as (f a p).2
   simp only[fJ,List.length_cons]
   have:((as.length+1:Nat):Int)*c=as.length*c+c:=by rw[Int.natCast_add,Int.add_mul];simp
   omega
theorem tM{α β:Type}(f:α→Int→β×Int):∀(as:List α)(p:Int),(fJ f as p).1.length=as.length
 | [],_=>rfl
 | a::as,p=>by simp[fJ,tM f as]
def mO{α:Type}(f:α→Int→α×Int):Nat→α→Int→α×Int
 | 0,a,p=>(a,p)
 | n+1,a,p=>mO f n (f a p).1 (f a p).2
def sX(k:Int):bA:=
 if k=0 then⟨[⟨[97],[],0⟩,⟨[98],[],0⟩,⟨[99],[],0⟩,⟨[102],[0],0⟩,⟨[103],[0,0],0⟩]⟩ else
 if k=1 then⟨[⟨[97],[],0⟩,⟨[98],[],0⟩,⟨[104],[0],1⟩,⟨[120],[],1⟩,⟨[121],[],1⟩]⟩ else
 if k=2 then⟨[⟨[107],[1],1⟩,⟨[120],[],1⟩,⟨[121],[],1⟩,⟨[122],[],1⟩]⟩ else
 if k=3 then⟨[⟨[97],[],0⟩,⟨[117],[1],0⟩,⟨[118],[1,0],1⟩,⟨[120],[],1⟩,⟨[121],[],1⟩]⟩ else⟨[]⟩
def FN(b:List Int)(p:Int):bA×Int:=(sX (dI b p [0,0,1,1,2,3,1,4]),p+1)
def bP(s:bA):Prop:=s.syms.length≤7∧∀x∈s.syms,x.args.length≤2∧cg x.name=true
instance(s:bA):Decidable (bP s):=by unfold bP;infer_instance
theorem GG(k:Int):bP (sX k):=by
 unfold sX
 split
 ·decide
 ·split
  ·decide
  ·split
   ·decide
   ·split<;>decide
def S5(b:List Int)(p:Int)(x:Sym):Sym:=⟨I5 b p [[],[65],[97,98,99],[122,122],[97]],x.args,x.sort⟩
def og(b:List Int):Nat→List Sym→Int→List Sym×Int
 | 0,l,p=>(l,p)
 | n+1,l,p=>og b n (l++[⟨122::I5 b p [[97],[98],[122]],[],0⟩]) (p+1)
def di(b:List Int)(s:bA)(p:Int):bA×Int:=
 if s.syms.length=0 then(s,p) else
 if 0<a6 b p 8 then(s,p+1) else
 let k:=(a6 b (p+1) s.syms.length).toNat
 let c:=a6 b (p+2) 5
 let x:=s.syms.getD k ⟨[],[],0⟩
 if c=0 then(⟨s.syms.set k ⟨I5 b (p+3) [[],[65],[97,98,99],[122,122],[97]],x.args,x.sort⟩⟩,p+4) else
 if c=1 then(⟨s.syms.set k ⟨x.name,x.args++[dI b (p+3) [0,2,-1,1]],x.sort⟩⟩,p+4) else
 if c=2 then(⟨s.syms.set k ⟨x.name,x.args,dI b (p+3) [1,2,-1,0]⟩⟩,p+4) else
 if c=3 then(⟨s.syms++[x]⟩,p+3) else
 (⟨(og b (8-s.syms.length) s.syms (p+3)).1⟩,(og b (8-s.syms.length) s.syms (p+3)).2)
theorem Dv(b:List Int):∀(n:Nat)(l:List Sym)(p:Int),(og b n l p).2=p+n∧(og b n l p).1.length=l.length+n
 | 0,_,_=>by simp[og]
 | n+1,l,p=>by
   obtain⟨h1,h2⟩:=Dv b n (l++[⟨122::I5 b p [[97],[98],[122]],[],0⟩]) (p+1)
   simp only[og,h1,h2,List.length_append,List.length_singleton]
   omega
theorem Pp(b:List Int)(s:bA)(p:Int):p≤(di b s p).2∧(di b s p).2≤p+20:=by
 have h1:=(Dv b (8-s.syms.length) s.syms (p+3)).1
 unfold di
 simp only
 repeat' split
 all_goals(simp only[h1];omega)
def fU(s:bA)(sort:Int)(deep:Nat):List Sym:=s.syms.filter fun x=>decide (x.sort=sort)&&(decide (1<deep)||decide (x.args.length=0))
def cO(b:List Int)(s:bA):Nat→Int→Int→Term×Int
 | 0,_,p=>(.mk [113] [],p)
 | d+1,sort,p=>
   if(fU s sort (d+1)).length=0 then(.mk [113] [],p) else
   let x:=(fU s sort (d+1)).getD (a6 b p (fU s sort (d+1)).length).toNat ly
   (.mk x.name (fJ (cO b s d) x.args (p+1)).1,(fJ (cO b s d) x.args (p+1)).2)
theorem nE{s:bA}{sort:Int}{d:Nat}{i:Nat}(h:bP s):((fU s sort d).getD i ly).args.length≤2∧(i<(fU s sort d).length→cg ((fU s sort d).getD i ly).name=true∧(d≤1→((fU s sort d).getD i ly).args=[])):=by
 rw[List.getD_eq_getElem?_getD]
 cases hx:(fU s sort d)[i]? with
 | none=>simp only[Option.getD_none];exact⟨by decide,fun hi=>by rw[List.getElem?_eq_getElem hi] at hx;cases hx⟩
 | some x=>
   simp only[Option.getD_some]
   have hm:=List.mem_of_getElem? hx
   rw[fU,List.mem_filter] at hm
   obtain⟨h1,h2⟩:=h.2 x hm.1
   refine⟨h1,fun _=>⟨h2,fun hd=>?_⟩⟩
   have:=hm.2
   simp only[Bool.and_eq_true,Bool.or_eq_true,decide_eq_true_eq] at this
   rcases this.2 with h3|h3
   ·omega
   ·exact List.eq_nil_of_length_eq_zero h3
theorem two_pow_pos(d:Nat):(1:Int)≤2 ^ d∧(2:Int) ^ (d+1)=2*2 ^ d:=by
 have h:=Nat.one_le_two_pow (n:=d)
 have e:(2:Int) ^ d=((2 ^ d:Nat):Int):=by simp
 exact⟨by omega,by rw[Int.pow_succ,Int.mul_comm]⟩
theorem yF{b:List Int}{s:bA}(h:bP s):∀(d:Nat)(sort p:Int),p≤(cO b s d sort p).2∧(cO b s d sort p).2≤p+(2 ^ d-1)
 | 0,_,p=>by simp[cO]
 | d+1,sort,p=>by
   have ih:=yF (b:=b) h d
   obtain⟨hp,hp2⟩:=two_pow_pos d
   simp only[cO]
   split
   ·simp only;omega
   ·have h1:=(nE (sort:=sort) (d:=d+1) (i:=(a6 b p (fU s sort (d+1)).length).toNat) h).1
    generalize (fU s sort (d+1)).getD (a6 b p (fU s sort (d+1)).length).toNat ly=x at h1⊢
    have h2:=Hf (f:=cO b s d) (c:=2 ^ d-1) (fun a p=>ih a p) x.args (p+1)
    have h3:(x.args.length:Int)*(2 ^ d-1)≤2*(2 ^ d-1):=Int.mul_le_mul_of_nonneg_right (by omega) (by omega)
    simp only
    omega
theorem zN{d:Nat}:∀{ts:List Term},(∀t∈ts,aB t d=true)→aQ ts d=true
 | [],_=>by simp[aQ]
 | t::ts,h=>by
   simp only[aQ,h t (by simp),Bool.true_and]
   exact zN fun u hu=>h u (by simp[hu])
theorem rG{b:List Int}(hb:qz b){s:bA}(h:bP s):∀(d:Nat)(sort p:Int),0≤p→1≤d→aB (cO b s d sort p).1 d=true
 | 0,_,_,_,hd=>by omega
 | d+1,sort,p,hp,_=>by
   simp only[cO]
   split
   ·simp only[aB,aQ,List.length_nil]
    decide
   ·rename_i hne
    have hn:1≤(fU s sort (d+1)).length:=by omega
    obtain⟨k,e,hk⟩:=nZ hb (p:=p) hp hn
    have h1:=nE (sort:=sort) (d:=d+1) (i:=k) h
    rw[e,Int.toNat_natCast]
    generalize (fU s sort (d+1)).getD k ly=x at h1⊢
    obtain⟨h2,h3⟩:=h1
    obtain⟨h3,h4⟩:=h3 hk
    simp only[aB,h3,Bool.true_and,Bool.and_eq_true,decide_eq_true_eq]
    refine⟨by rw[tM];exact h2,?_⟩
    rcases Nat.eq_zero_or_pos d with rfl|hd
    ·rw[h4 (Nat.le_refl 1)]
     simp[fJ,aQ]
    ·refine zN fun t ht=>?_
     have key:∀(as:List Int)(q:Int),0≤q→∀t∈(fJ (cO b s d) as q).1,aB t d=true:=by
      intro as
      induction as with
      | nil=>intro q _ t h;simp[fJ] at h
      | cons a as ih=>
        intro q hq t ht
        simp only[fJ,List.mem_cons] at ht
        rcases ht with rfl|ht
        ·exact rG hb h d a q hq hd
        ·exact ih _ (by have:=(yF (b:=b) h d a q).1;omega) t ht
     exact key _ _ (by omega) t ht
def BW(b:List Int)(s:bA)(p:Int):Term×Int:=
 let r:=cO b s (dI b (p+1) [2,3,1,4]).toNat (a6 b p 2) (p+2)
 let c:=a6 b r.2 48
 if c=0 then(.mk (I5 b (r.2+1) [[],[65],[97,98,99],[102]]) r.1.kids,r.2+2) else
 if c=1 then(.mk r.1.name (r.1.kids++[r.1]),r.2+1) else
 if c=2 then(.mk r.1.name (r.1.kids++[r.1,r.1]),r.2+1) else(r.1,r.2+1)
def eW(t:Term)(n:Int):List Term→List Int→Bool→List Term×List Int
 | u::us,k::ks,done=>
   let now:=!done&& !cR (ak u) (ak t)
   let own:=decide (ak u≠ak t)
   let r:=eW t n us ks (done||now)
   ((if now then [t] else [])++((if own then [u] else [])++r.1),(if now then [n] else [])++((if own then [k] else [])++r.2))
 | _,_,done=>if done then([],[]) else([t],[n])
def OK(a:Atom)(t:Term)(n:Int):Atom:=⟨a.kind,ao,ao,(eW t n a.nums a.times false).1,(eW t n a.nums a.times false).2,a.bound,a.strict⟩
theorem AL(t:Term)(n:Int):∀(us:List Term)(ks:List Int)(d:Bool),(eW t n us ks d).1.length=(eW t n us ks d).2.length∧(eW t n us ks d).1.length≤us.length+(if d then 0 else 1)
 | u::us,k::ks,d=>by
   simp only[eW]
   generalize decide (ak u≠ak t)=o
   generalize cR (ak u) (ak t)=q
   have h:=AL t n us ks (d||(!d&& !q))
   generalize eW t n us ks (d||(!d&& !q))=r at h
   cases d<;>cases q<;>cases o<;>simp at h⊢<;>omega
 | [],_,d=>by cases d<;>simp[eW]
 | _::_,[],d=>by cases d<;>simp[eW]
def fa(b:List Int)(s:bA)(a:Atom)(p:Int):Atom×Int:=
 let r:=cO b s (dI b p [1,1,2]).toNat 1 (p+1)
 (OK a r.1 (dI b r.2 [1,-1,1,-1,2,-2]),r.2+1)
def gI(b:List Int)(s:bA)(p:Int):Atom×Int:=
 if a6 b p 2=0 then
  let x:=cO b s (dI b (p+2) [1,2]).toNat (a6 b (p+1) 2) (p+3)
  let y:=cO b s (dI b x.2 [1,1,2]).toNat (a6 b (p+1) 2) (x.2+1)
  (⟨1,x.1,y.1,[],[],0,false⟩,y.2)
 else mO (fa b s) (dI b (p+3) [1,2,2,3]).toNat ⟨2,ao,ao,[],[],dI b (p+1) [0,1,-1,2,3,-4],decide (a6 b (p+2) 3=0)⟩ (p+4)
end Go.Mod
namespace Go.Mod
open Go.Eng
theorem Ed{P:Term→Prop}{t:Term}{n:Int}(ht:P t):∀(us:List Term)(ks:List Int)(d:Bool),(∀u∈us,P u)→∀u∈(eW t n us ks d).1,P u
 | u::us,k::ks,d,h,v,hv=>by
   have ih:=Ed (n:=n) ht us ks (d||(!d&& !cR (ak u) (ak t))) (fun w hw=>h w (by simp[hw]))
   simp only[eW,List.mem_append] at hv
   rcases hv with hv|hv|hv
   ·split at hv
    ·simp only[List.mem_singleton] at hv;rw[hv];exact ht
    ·simp at hv
   ·split at hv
    ·simp only[List.mem_singleton] at hv;rw[hv];exact h u (by simp)
    ·simp at hv
   ·exact ih v hv
 | [],_,d,_,v,hv=>by
   cases d<;>simp[eW] at hv
   rw[hv];exact ht
 | _::_,[],d,_,v,hv=>by
   cases d<;>simp[eW] at hv
   rw[hv];exact ht
theorem Bu{t:Term}:∀{d e:Nat},d≤e→aB t d=true→aB t e=true:=by
 intro d e h
 induction e with
 | zero=>intro ht;obtain rfl:d=0:=by omega
         exact ht
 | succ e ih=>
   intro ht
   rcases Nat.lt_or_ge d (e+1) with h1|h1
   ·exact um t e (ih (by omega) ht)
   ·obtain rfl:d=e+1:=by omega
    exact ht
structure ma(m:Nat)(a:Atom):Prop where
 len:a.nums.length=a.times.length
 SF:a.nums.length≤m
 sh:∀t∈a.nums,aB t 4=true
theorem JK{m:Nat}{a:Atom}{t:Term}(h:ma m a)(ht:aB t 4=true)(n:Int):ma (m+1) (OK a t n):=by
 obtain⟨h1,h2⟩:=AL t n a.nums a.times false
 exact⟨h1,by have:=h.SF;simp only[Bool.false_eq_true,if_false] at h2;simp only[OK];omega,Ed (P:=fun t=>aB t 4=true) ht _ _ _ h.sh⟩
theorem qa{b:List Int}(hb:qz b){p:Int}(h1:0≤p){l:List Int}(hl:l≠[])(hd:∀x∈l,1≤x∧x≤4):∃d:Nat,dI b p l=d∧1≤d∧d≤4:=by
 have:=hd _ (pa hb h1 hl)
 exact⟨(dI b p l).toNat,by omega,by omega,by omega⟩
theorem Hm{d e:Nat}(h:d≤e):(2:Int) ^ d≤2 ^ e:=by
 have:=Nat.pow_le_pow_right (n:=2) (by omega) h
 have e1:(2:Int) ^ d=((2 ^ d:Nat):Int):=by simp
 have e2:(2:Int) ^ e=((2 ^ e:Nat):Int):=by simp
 rw[e1,e2]
 exact Int.ofNat_le.2 this
theorem tH{b:List Int}{s:bA}(h:bP s){d:Nat}(hd:d≤4)(sort p:Int):p≤(cO b s d sort p).2∧(cO b s d sort p).2≤p+15:=by
 have h1:=yF (b:=b) h d sort p
 have h2:=Hm hd
 omega
theorem Bc{b:List Int}(hb:qz b){s:bA}(h:bP s){a:Atom}{p:Int}(hp:0≤p):p≤(fa b s a p).2∧(fa b s a p).2≤p+17:=by
 obtain⟨d,e,h1,h2⟩:=qa hb hp (l:=[1,1,2]) (by simp) (by decide)
 have:=tH (b:=b) h h2 1 (p+1)
 simp only[fa,e,Int.toNat_natCast]
 omega
theorem tW{b:List Int}(hb:qz b){s:bA}(h:bP s){m:Nat}{a:Atom}{p:Int}(hp:0≤p)(ha:ma m a):ma (m+1) (fa b s a p).1:=by
 obtain⟨d,e,h1,h2⟩:=qa hb hp (l:=[1,1,2]) (by simp) (by decide)
 simp only[fa,e,Int.toNat_natCast]
 exact JK ha (Bu h2 (rG hb h d 1 (p+1) (by omega) h1)) _
theorem LK{b:List Int}(hb:qz b){s:bA}(h:bP s):∀(n m:Nat)(a:Atom)(p:Int),0≤p→ma m a→p≤(mO (fa b s) n a p).2∧(mO (fa b s) n a p).2≤p+n*17∧ma (m+n) (mO (fa b s) n a p).1
 | 0,m,a,p,hp,ha=>by simpa[mO] using ha
 | n+1,m,a,p,hp,ha=>by
   have h1:=Bc hb h (a:=a) hp
   have h2:=LK hb h n (m+1) (fa b s a p).1 (fa b s a p).2 (by omega) (tW hb h hp ha)
   simp only[mO]
   refine⟨by omega,by omega,?_⟩
   have:=h2.2.2
   rwa [show m+1+n=m+(n+1) by omega] at this
theorem F3{b:List Int}(hb:qz b){s:bA}(h:bP s){p:Int}(hp:0≤p):p≤(gI b s p).2∧(gI b s p).2≤p+60∧ma 3 (gI b s p).1:=by
 unfold gI
 split
 ·obtain⟨d,e,h1,h2⟩:=qa hb (p:=p+2) (by omega) (l:=[1,2]) (by simp) (by decide)
  have k1:=tH (b:=b) h h2 (a6 b (p+1) 2) (p+3)
  simp only[e,Int.toNat_natCast]
  generalize cO b s d (a6 b (p+1) 2) (p+3)=x at k1⊢
  obtain⟨d2,e2,h3,h4⟩:=qa hb (p:=x.2) (by omega) (l:=[1,1,2]) (by simp) (by decide)
  have k2:=tH (b:=b) h h4 (a6 b (p+1) 2) (x.2+1)
  simp only[e2,Int.toNat_natCast]
  exact⟨by omega,by omega,⟨rfl,by simp,by simp⟩⟩
 ·have hm:=pa hb (p:=p+3) (l:=[1,2,2,3]) (by omega) (by simp)
  have hk:(dI b (p+3) [1,2,2,3]).toNat≤3:=by
   simp only[List.mem_cons,List.not_mem_nil,or_false] at hm
   omega
  have:=LK hb h (dI b (p+3) [1,2,2,3]).toNat 0 ⟨2,ao,ao,[],[],dI b (p+1) [0,1,-1,2,3,-4],decide (a6 b (p+2) 3=0)⟩ (p+4) (by omega) ⟨rfl,by simp,by simp⟩
  refine⟨by omega,by omega,this.2.2.len,?_,this.2.2.sh⟩
  have:=this.2.2.SF
  omega
def vH(b:List Int)(s:bA)(p:Int):Atom×Int:=
 let r:=gI b s p
 let a:=r.1
 let c:=a6 b r.2 80
 if c=0 then(⟨dI b (r.2+1) [0,3,1,2],a.A,a.B,a.nums,a.times,a.bound,a.strict⟩,r.2+2) else
 if c=1 then(⟨a.kind,a.A,a.B,a.nums,a.times,dI b (r.2+1) [1001,-9223372036854775808,5],a.strict⟩,r.2+2) else
 if c=2 then(⟨a.kind,(BW b s (r.2+1)).1,a.B,a.nums,a.times,a.bound,a.strict⟩,(BW b s (r.2+1)).2) else
 if c=3 then(if 0<a.times.length then(⟨a.kind,a.A,a.B,a.nums,a.times.set 0 (dI b (r.2+1) [0,51,-9223372036854775808]),a.bound,a.strict⟩,r.2+2) else(a,r.2+1)) else
 if c=4 then(⟨a.kind,a.A,a.B,a.nums++[(cO b s 1 1 (r.2+1)).1],a.times,a.bound,a.strict⟩,(cO b s 1 1 (r.2+1)).2) else(a,r.2+1)
def K1(b:List Int)(atoms:List Atom):Nat→Int→Form×Int
 | 0,p=>(R4,p)
 | d+1,p=>
   if d=0 then(.mk 1 ⟨atoms.getD (a6 b p atoms.length).toNat FI,decide (a6 b (p+1) 3=0)⟩ [],p+2) else
   if a6 b p 4=0 then(.mk 1 ⟨atoms.getD (a6 b (p+1) atoms.length).toNat FI,decide (a6 b (p+2) 3=0)⟩ [],p+3) else
   let k:=dI b (p+1) [3,4,4,5,3,6,2]
   let r:=fJ (fun(_:Unit) q=>K1 b atoms d q) (List.replicate (Nu k).toNat ()) (p+2)
   (.mk k z7 r.1,r.2)
mutual
def nodes:Form→Nat
 | .mk _ _ ks=>1+MA ks
def MA:List Form→Nat
 | []=>0
 | t::ts=>nodes t+MA ts
end
def Mw(b:List Int)(s:bA)(out:List Atom)(p:Int):List Atom×Int:=
 (if bG s (plain (out++[(gI b s p).1])) then(if Db out (gI b s p).1<0 then out++[(gI b s p).1] else out) else out,(gI b s p).2)
def QY:Atom:=⟨1,.mk [97] [],.mk [97] [],[],[],0,false⟩
def PS(b:List Int)(s:bA)(p:Int):List Atom×Int:=
 let r:=mO (Mw b s) (dI b p [2,3,4,5,1]).toNat [] (p+1)
 (if r.1.length=0 then r.1++[QY] else r.1,r.2)
def RE(b:List Int)(p:Int):bA×Form×Int:=
 let s:=(FN b p).1
 let a:=PS b s (p+1)
 let r:=K1 b a.1 (dI b a.2 [3,4,2,3,1]).toNat (a.2+1)
 (s,r.1,r.2)
def P1(b:List Int)(p:Int):bA×Form×Int:=
 let r:=RE b p
 let f:=r.2.1
 let q:=r.2.2
 let c:=a6 b q 64
 if c=0 then(r.1,.mk (dI b (q+1) [0,7,1,2,3]) f.lit f.kids,q+2) else
 if c=1 then(r.1,.mk f.kind f.lit (f.kids++[f]),q+1) else
 if c=2 then(r.1,.mk f.kind ⟨(vH b r.1 (q+1)).1,false⟩ f.kids,(vH b r.1 (q+1)).2) else
 if c=3 then((di b (di b r.1 (q+1)).1 (di b r.1 (q+1)).2).1,f,(di b (di b r.1 (q+1)).1 (di b r.1 (q+1)).2).2) else(r.1,f,q+1)
def Sk(b:List Int)(n:Nat)(p:Int):List Bool×Int:=
 let r:=fJ (fun(_:Unit) q=>(decide (a6 b q 2=0),q+1)) (List.replicate n ()) p
 (if a6 b r.2 30=0 then r.1++[true] else r.1,r.2+1)
def K4(b:List Int)(told:List Atom)(out:List Form)(p:Int):List Form×Int:=
 let r:=K1 b told (dI b p [2,3,1]).toNat (p+1)
 (out++[r.1],r.2)
def M0(b:List Int)(told:List Atom):Nat→List Form→Int→List Form×Int
 | 0,l,p=>(l,p)
 | n+1,l,p=>M0 b told n (l++[(K1 b told 1 p).1]) (K1 b told 1 p).2
def Mx(b:List Int)(p:Int):bA×List Form×Int:=
 let s:=(FN b p).1
 let a:=PS b s (p+1)
 let r:=mO (K4 b a.1) (dI b a.2 [2,3,1,4,0]).toNat [] (a.2+1)
 let c:=a6 b r.2 48
 if c=0 then(s,r.1++[(P1 b (r.2+1)).2.1],(P1 b (r.2+1)).2.2) else
 if c=1 then(s,(M0 b a.1 (6-r.1.length) r.1 (r.2+1)).1,(M0 b a.1 (6-r.1.length) r.1 (r.2+1)).2) else
 if c=2 then((di b (di b s (r.2+1)).1 (di b s (r.2+1)).2).1,r.1,(di b (di b s (r.2+1)).1 (di b s (r.2+1)).2).2) else(s,r.1,r.2+1)
def PU(b:List Int):List Form×List Bool:=((Mx b 0).2.1,(Sk b (rV [] (Mx b 0).2.1).length (Mx b 0).2.2).1)
end Go.Mod
