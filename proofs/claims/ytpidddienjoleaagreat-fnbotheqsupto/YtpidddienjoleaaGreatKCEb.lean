/-
  What is drawn from a code, in plain Lean: words, terms, atoms, forms. No program is walked here.
-/
import Derived.Test.YtpidddienjoleaaGreatKCE
import Derived.Test.YtpidddienjoleaaGreatKCDa
import Derived.Test.YtpidddienjoleaaGreatKCEa
import Derived.Lib.SlicesCompact
set_option linter.unusedVariables false
set_option linter.unusedSimpArgs false
namespace Go.Mod
open Go.Eng
structure pZ(b:List Int):Prop where
 len:b.length≤2000
 byte:∀x∈b,0≤x∧x≤255
theorem pZ.getD{b:List Int}(h:pZ b)(i:Nat):0≤b.getD i 0∧b.getD i 0≤255:=by
 rw[List.getD_eq_getElem?_getD]
 cases hx:b[i]? with
 | none=>simp
 | some x=>exact h.byte x (List.mem_of_getElem? hx)
def ma(b:List Int)(p:Int):Int:=b.getD (p.tmod b.length).toNat 0*131+b.getD ((p*7+3).tmod b.length).toNat 0*1117+p*29+p.tdiv b.length*53
def aZ(b:List Int)(p n:Int):Int:=
 if n<1 then 0 else if b.length=0 then 0 else
 if p<b.length then(b.getD p.toNat 0).tmod n else(D8 (ma b p) ((ma b p).tdiv 64)).tmod n
def dF(b:List Int)(p:Int)(l:List Int):Int:=l.getD (aZ b p l.length).toNat 0
def Hg(b:List Int)(p:Int)(l:List gL):gL:=l.getD (aZ b p l.length).toNat []
theorem Nu{b:List Int}(h:pZ b){p:Int}(h1:0≤p)(h2:p≤1000000000)(h3:b.length≠0):0≤p.tdiv b.length∧p.tdiv b.length≤p∧0≤ma b p∧ma b p≤1000000000000:=by
 have e1:=h.getD (p.tmod b.length).toNat
 have e2:=h.getD ((p*7+3).tmod b.length).toNat
 have e3:0≤p.tdiv b.length:=Int.tdiv_nonneg h1 (Int.natCast_nonneg _)
 have e4:p.tdiv b.length≤p:=by
  rw[Int.tdiv_eq_ediv_of_nonneg h1]
  exact Int.ediv_le_self _ h1
 refine⟨e3,e4,?_,?_⟩<;>(unfold ma;omega)
theorem Mz{b:List Int}(h:pZ b){p n:Int}(h1:0≤p)(hn:1≤n):0≤aZ b p n∧aZ b p n<n:=by
 unfold aZ
 rw[if_neg (by omega)]
 split
 ·omega
 ·split
  ·have:=h.getD p.toNat
   exact⟨Int.tmod_nonneg _ this.1,Int.tmod_lt_of_pos _ (by omega)⟩
  ·exact⟨Int.tmod_nonneg _ (Nj _ _),Int.tmod_lt_of_pos _ (by omega)⟩
theorem mP{b:List Int}(h:pZ b){p:Int}{n:Nat}(h1:0≤p)(hn:1≤n):∃k:Nat,aZ b p n=k∧k<n:=by
 have:=Mz h (p:=p) (n:=n) h1 (by omega)
 exact⟨(aZ b p n).toNat,by omega,by omega⟩
theorem oO{b:List Int}(h:pZ b){p:Int}{l:List Int}(h1:0≤p)(hl:l≠[]):dF b p l∈l:=by
 have hn:1≤l.length:=by cases l with|nil=>exact(hl rfl).elim|cons=>simp
 obtain⟨k,e,hk⟩:=mP h (n:=l.length) h1 hn
 unfold dF
 rw[e,Int.toNat_natCast,List.getD_eq_getElem?_getD,List.getElem?_eq_getElem hk]
 exact List.getElem_mem hk
theorem M4{b:List Int}(h:pZ b){p:Int}{l:List gL}(h1:0≤p)(hl:l≠[]):Hg b p l∈l:=by
 have hn:1≤l.length:=by cases l with|nil=>exact(hl rfl).elim|cons=>simp
 obtain⟨k,e,hk⟩:=mP h (n:=l.length) h1 hn
 unfold Hg
 rw[e,Int.toNat_natCast,List.getD_eq_getElem?_getD,List.getElem?_eq_getElem hk]
 exact List.getElem_mem hk
def fC{α β:Type}(f:α→Int→β×Int):List α→Int→List β×Int
 | [],p=>([],p)
 | a::as,p=>((f a p).1::(fC f as (f a p).2).1,(fC f as (f a p).2).2)
theorem zV{α β:Type}(f:α→Int→β×Int)(x:α):∀(as:List α)(p:Int),fC f (as++[x]) p=((fC f as p).1++[(f x (fC f as p).2).1],(f x (fC f as p).2).2)
 | [],p=>rfl
 | a::as,p=>by simp only[List.cons_append,fC,zV f x as]
theorem Ji{α β:Type}(f:α→Int→β×Int){as:List α}{i:Nat}(h:i<as.length)(p:Int):fC f (as.take (i+1)) p=((fC f (as.take i) p).1++[(f as[i] (fC f (as.take i) p).2).1],(f as[i] (fC f (as.take i) p).2).2):=by
 have e:as.take (i+1)=as.take i++[as[i]]:=by rw[List.take_add_one,List.getElem?_eq_getElem h];rfl
 rw[e,zV]
theorem Fq{α β:Type}{f:α→Int→β×Int}{c:Int}(hf:∀a p,p≤(f a p).2∧(f a p).2≤p+c):∀(as:List α)(p:Int),p≤(fC f as p).2∧(fC f as p).2≤p+as.length*c
 | [],p=>by simp[fC]
 | a::as,p=>by
   have h1:=hf a p
   have h2:=Fq hf as (f a p).2
   simp only[fC,List.length_cons]
   have:((as.length+1:Nat):Int)*c=as.length*c+c:=by rw[Int.natCast_add,Int.add_mul];simp
   omega
theorem sK{α β:Type}(f:α→Int→β×Int):∀(as:List α)(p:Int),(fC f as p).1.length=as.length
 | [],_=>rfl
 | a::as,p=>by simp[fC,sK f as]
def mr{α:Type}(f:α→Int→α×Int):Nat→α→Int→α×Int
 | 0,a,p=>(a,p)
 | n+1,a,p=>mr f n (f a p).1 (f a p).2
def sn(k:Int):bJ:=
 if k=0 then⟨[⟨[97],[],0⟩,⟨[98],[],0⟩,⟨[99],[],0⟩,⟨[102],[0],0⟩,⟨[103],[0,0],0⟩]⟩ else
 if k=1 then⟨[⟨[97],[],0⟩,⟨[98],[],0⟩,⟨[104],[0],1⟩,⟨[120],[],1⟩,⟨[121],[],1⟩]⟩ else
 if k=2 then⟨[⟨[107],[1],1⟩,⟨[120],[],1⟩,⟨[121],[],1⟩,⟨[122],[],1⟩]⟩ else
 if k=3 then⟨[⟨[97],[],0⟩,⟨[117],[1],0⟩,⟨[118],[1,0],1⟩,⟨[120],[],1⟩,⟨[121],[],1⟩]⟩ else⟨[]⟩
def EP(b:List Int)(p:Int):bJ×Int:=(sn (dF b p [0,0,1,1,2,3,1,4]),p+1)
def bQ(s:bJ):Prop:=s.syms.length≤7∧∀x∈s.syms,x.args.length≤2∧cd x.name=true
instance(s:bJ):Decidable (bQ s):=by unfold bQ;infer_instance
theorem FW(k:Int):bQ (sn k):=by
 unfold sn
 split
 ·decide
 ·split
  ·decide
  ·split
   ·decide
   ·split<;>decide
def RF(b:List Int)(p:Int)(x:Sym):Sym:=⟨Hg b p [[],[65],[97,98,99],[122,122],[97]],x.args,x.sort⟩
def nP(b:List Int):Nat→List Sym→Int→List Sym×Int
 | 0,l,p=>(l,p)
 | n+1,l,p=>nP b n (l++[⟨122::Hg b p [[97],[98],[122]],[],0⟩]) (p+1)
def dh(b:List Int)(s:bJ)(p:Int):bJ×Int:=
 if s.syms.length=0 then(s,p) else
 if 0<aZ b p 8 then(s,p+1) else
 let k:=(aZ b (p+1) s.syms.length).toNat
 let c:=aZ b (p+2) 5
 let x:=s.syms.getD k ⟨[],[],0⟩
 if c=0 then(⟨s.syms.set k ⟨Hg b (p+3) [[],[65],[97,98,99],[122,122],[97]],x.args,x.sort⟩⟩,p+4) else
 if c=1 then(⟨s.syms.set k ⟨x.name,x.args++[dF b (p+3) [0,2,-1,1]],x.sort⟩⟩,p+4) else
 if c=2 then(⟨s.syms.set k ⟨x.name,x.args,dF b (p+3) [1,2,-1,0]⟩⟩,p+4) else
 if c=3 then(⟨s.syms++[x]⟩,p+3) else
 (⟨(nP b (8-s.syms.length) s.syms (p+3)).1⟩,(nP b (8-s.syms.length) s.syms (p+3)).2)
theorem Bv(b:List Int):∀(n:Nat)(l:List Sym)(p:Int),(nP b n l p).2=p+n∧(nP b n l p).1.length=l.length+n
 | 0,_,_=>by simp[nP]
 | n+1,l,p=>by
   obtain⟨h1,h2⟩:=Bv b n (l++[⟨122::Hg b p [[97],[98],[122]],[],0⟩]) (p+1)
   simp only[nP,h1,h2,List.length_append,List.length_singleton]
   omega
theorem Ob(b:List Int)(s:bJ)(p:Int):p≤(dh b s p).2∧(dh b s p).2≤p+20:=by
 have h1:=(Bv b (8-s.syms.length) s.syms (p+3)).1
 unfold dh
 simp only
 repeat' split
 all_goals(simp only[h1];omega)
def fL(s:bJ)(sort:Int)(deep:Nat):List Sym:=s.syms.filter fun x=>decide (x.sort=sort)&&(decide (1<deep)||decide (x.args.length=0))
def cK(b:List Int)(s:bJ):Nat→Int→Int→Term×Int
 | 0,_,p=>(.mk [113] [],p)
 | d+1,sort,p=>
   if(fL s sort (d+1)).length=0 then(.mk [113] [],p) else
   let x:=(fL s sort (d+1)).getD (aZ b p (fL s sort (d+1)).length).toNat kN
   (.mk x.name (fC (cK b s d) x.args (p+1)).1,(fC (cK b s d) x.args (p+1)).2)
theorem nC{s:bJ}{sort:Int}{d:Nat}{i:Nat}(h:bQ s):((fL s sort d).getD i kN).args.length≤2∧(i<(fL s sort d).length→cd ((fL s sort d).getD i kN).name=true∧(d≤1→((fL s sort d).getD i kN).args=[])):=by
 rw[List.getD_eq_getElem?_getD]
 cases hx:(fL s sort d)[i]? with
 | none=>simp only[Option.getD_none];exact⟨by decide,fun hi=>by rw[List.getElem?_eq_getElem hi] at hx;cases hx⟩
 | some x=>
   simp only[Option.getD_some]
   have hm:=List.mem_of_getElem? hx
   rw[fL,List.mem_filter] at hm
   obtain⟨h1,h2⟩:=h.2 x hm.1
   refine⟨h1,fun _=>⟨h2,fun hd=>?_⟩⟩
   have:=hm.2
   simp only[Bool.and_eq_true,Bool.or_eq_true,decide_eq_true_eq] at this
   rcases this.2 with h3|h3
   ·omega
   ·exact List.eq_nil_of_length_eq_zero h3
theorem two_pow_pos(d:Nat):(1:Int)≤2 ^ d∧(2:Int) ^ (d+1)=2*2 ^ d:=by
 have h:=Nat.one_le_two_pow (n:=d)
 have e:(2:Int) ^ d=((2 ^ d:Nat):Int):=by simp
 exact⟨by omega,by rw[Int.pow_succ,Int.mul_comm]⟩
theorem xn{b:List Int}{s:bJ}(h:bQ s):∀(d:Nat)(sort p:Int),p≤(cK b s d sort p).2∧(cK b s d sort p).2≤p+(2 ^ d-1)
 | 0,_,p=>by simp[cK]
 | d+1,sort,p=>by
   have ih:=xn (b:=b) h d
   obtain⟨hp,hp2⟩:=two_pow_pos d
   simp only[cK]
   split
   ·simp only;omega
   ·have h1:=(nC (sort:=sort) (d:=d+1) (i:=(aZ b p (fL s sort (d+1)).length).toNat) h).1
    generalize (fL s sort (d+1)).getD (aZ b p (fL s sort (d+1)).length).toNat kN=x at h1⊢
    have h2:=Fq (f:=cK b s d) (c:=2 ^ d-1) (fun a p=>ih a p) x.args (p+1)
    have h3:(x.args.length:Int)*(2 ^ d-1)≤2*(2 ^ d-1):=Int.mul_le_mul_of_nonneg_right (by omega) (by omega)
    simp only
    omega
theorem xw{d:Nat}:∀{ts:List Term},(∀t∈ts,aE t d=true)→aQ ts d=true
 | [],_=>by simp[aQ]
 | t::ts,h=>by
   simp only[aQ,h t (by simp),Bool.true_and]
   exact xw fun u hu=>h u (by simp[hu])
theorem rl{b:List Int}(hb:pZ b){s:bJ}(h:bQ s):∀(d:Nat)(sort p:Int),0≤p→1≤d→aE (cK b s d sort p).1 d=true
 | 0,_,_,_,hd=>by omega
 | d+1,sort,p,hp,_=>by
   simp only[cK]
   split
   ·simp only[aE,aQ,List.length_nil]
    decide
   ·rename_i hne
    have hn:1≤(fL s sort (d+1)).length:=by omega
    obtain⟨k,e,hk⟩:=mP hb (p:=p) hp hn
    have h1:=nC (sort:=sort) (d:=d+1) (i:=k) h
    rw[e,Int.toNat_natCast]
    generalize (fL s sort (d+1)).getD k kN=x at h1⊢
    obtain⟨h2,h3⟩:=h1
    obtain⟨h3,h4⟩:=h3 hk
    simp only[aE,h3,Bool.true_and,Bool.and_eq_true,decide_eq_true_eq]
    refine⟨by rw[sK];exact h2,?_⟩
    rcases Nat.eq_zero_or_pos d with rfl|hd
    ·rw[h4 (Nat.le_refl 1)]
     simp[fC,aQ]
    ·refine xw fun t ht=>?_
     have key:∀(as:List Int)(q:Int),0≤q→∀t∈(fC (cK b s d) as q).1,aE t d=true:=by
      intro as
      induction as with
      | nil=>intro q _ t h;simp[fC] at h
      | cons a as ih=>
        intro q hq t ht
        simp only[fC,List.mem_cons] at ht
        rcases ht with rfl|ht
        ·exact rl hb h d a q hq hd
        ·exact ih _ (by have:=(xn (b:=b) h d a q).1;omega) t ht
     exact key _ _ (by omega) t ht
def Ad(b:List Int)(s:bJ)(p:Int):Term×Int:=
 let r:=cK b s (dF b (p+1) [2,3,1,4]).toNat (aZ b p 2) (p+2)
 let c:=aZ b r.2 48
 if c=0 then(.mk (Hg b (r.2+1) [[],[65],[97,98,99],[102]]) r.1.kids,r.2+2) else
 if c=1 then(.mk r.1.name (r.1.kids++[r.1]),r.2+1) else
 if c=2 then(.mk r.1.name (r.1.kids++[r.1,r.1]),r.2+1) else(r.1,r.2+1)
def eM(t:Term)(n:Int):List Term→List Int→Bool→List Term×List Int
 | u::us,k::ks,done=>
   let now:=!done&& !cX (aj u) (aj t)
   let own:=decide (aj u≠aj t)
   let r:=eM t n us ks (done||now)
   ((if now then [t] else [])++((if own then [u] else [])++r.1),(if now then [n] else [])++((if own then [k] else [])++r.2))
 | _,_,done=>if done then([],[]) else([t],[n])
def NV(a:Atom)(t:Term)(n:Int):Atom:=⟨a.kind,ao,ao,(eM t n a.nums a.times false).1,(eM t n a.nums a.times false).2,a.bound,a.strict⟩
theorem AH(t:Term)(n:Int):∀(us:List Term)(ks:List Int)(d:Bool),(eM t n us ks d).1.length=(eM t n us ks d).2.length∧(eM t n us ks d).1.length≤us.length+(if d then 0 else 1)
 | u::us,k::ks,d=>by
   simp only[eM]
   generalize decide (aj u≠aj t)=o
   generalize cX (aj u) (aj t)=q
   have h:=AH t n us ks (d||(!d&& !q))
   generalize eM t n us ks (d||(!d&& !q))=r at h
   cases d<;>cases q<;>cases o<;>simp at h⊢<;>omega
 | [],_,d=>by cases d<;>simp[eM]
 | _::_,[],d=>by cases d<;>simp[eM]
def eU(b:List Int)(s:bJ)(a:Atom)(p:Int):Atom×Int:=
 let r:=cK b s (dF b p [1,1,2]).toNat 1 (p+1)
 (NV a r.1 (dF b r.2 [1,-1,1,-1,2,-2]),r.2+1)
def gw(b:List Int)(s:bJ)(p:Int):Atom×Int:=
 if aZ b p 2=0 then
  let x:=cK b s (dF b (p+2) [1,2]).toNat (aZ b (p+1) 2) (p+3)
  let y:=cK b s (dF b x.2 [1,1,2]).toNat (aZ b (p+1) 2) (x.2+1)
  (⟨1,x.1,y.1,[],[],0,false⟩,y.2)
 else mr (eU b s) (dF b (p+3) [1,2,2,3]).toNat ⟨2,ao,ao,[],[],dF b (p+1) [0,1,-1,2,3,-4],decide (aZ b (p+2) 3=0)⟩ (p+4)
end Go.Mod
namespace Go.Mod
open Go.Eng
theorem Dd{P:Term→Prop}{t:Term}{n:Int}(ht:P t):∀(us:List Term)(ks:List Int)(d:Bool),(∀u∈us,P u)→∀u∈(eM t n us ks d).1,P u
 | u::us,k::ks,d,h,v,hv=>by
   have ih:=Dd (n:=n) ht us ks (d||(!d&& !cX (aj u) (aj t))) (fun w hw=>h w (by simp[hw]))
   simp only[eM,List.mem_append] at hv
   rcases hv with hv|hv|hv
   ·split at hv
    ·simp only[List.mem_singleton] at hv;rw[hv];exact ht
    ·simp at hv
   ·split at hv
    ·simp only[List.mem_singleton] at hv;rw[hv];exact h u (by simp)
    ·simp at hv
   ·exact ih v hv
 | [],_,d,_,v,hv=>by
   cases d<;>simp[eM] at hv
   rw[hv];exact ht
 | _::_,[],d,_,v,hv=>by
   cases d<;>simp[eM] at hv
   rw[hv];exact ht
theorem A6{t:Term}:∀{d e:Nat},d≤e→aE t d=true→aE t e=true:=by
 intro d e h
 induction e with
 | zero=>intro ht;obtain rfl:d=0:=by omega
         exact ht
 | succ e ih=>
   intro ht
   rcases Nat.lt_or_ge d (e+1) with h1|h1
   ·exact uz t e (ih (by omega) ht)
   ·obtain rfl:d=e+1:=by omega
    exact ht
structure lB(m:Nat)(a:Atom):Prop where
 len:a.nums.length=a.times.length
 Ra:a.nums.length≤m
 sh:∀t∈a.nums,aE t 4=true
theorem Ip{m:Nat}{a:Atom}{t:Term}(h:lB m a)(ht:aE t 4=true)(n:Int):lB (m+1) (NV a t n):=by
 obtain⟨h1,h2⟩:=AH t n a.nums a.times false
 exact⟨h1,by have:=h.Ra;simp only[Bool.false_eq_true,if_false] at h2;simp only[NV];omega,Dd (P:=fun t=>aE t 4=true) ht _ _ _ h.sh⟩
theorem pz{b:List Int}(hb:pZ b){p:Int}(h1:0≤p){l:List Int}(hl:l≠[])(hd:∀x∈l,1≤x∧x≤4):∃d:Nat,dF b p l=d∧1≤d∧d≤4:=by
 have:=hd _ (oO hb h1 hl)
 exact⟨(dF b p l).toNat,by omega,by omega,by omega⟩
theorem Gc{d e:Nat}(h:d≤e):(2:Int) ^ d≤2 ^ e:=by
 have:=Nat.pow_le_pow_right (n:=2) (by omega) h
 have e1:(2:Int) ^ d=((2 ^ d:Nat):Int):=by simp
 have e2:(2:Int) ^ e=((2 ^ e:Nat):Int):=by simp
 rw[e1,e2]
 exact Int.ofNat_le.2 this
theorem rP{b:List Int}{s:bJ}(h:bQ s){d:Nat}(hd:d≤4)(sort p:Int):p≤(cK b s d sort p).2∧(cK b s d sort p).2≤p+15:=by
 have h1:=xn (b:=b) h d sort p
 have h2:=Gc hd
 omega
theorem A4{b:List Int}(hb:pZ b){s:bJ}(h:bQ s){a:Atom}{p:Int}(hp:0≤p):p≤(eU b s a p).2∧(eU b s a p).2≤p+17:=by
 obtain⟨d,e,h1,h2⟩:=pz hb hp (l:=[1,1,2]) (by simp) (by decide)
 have:=rP (b:=b) h h2 1 (p+1)
 simp only[eU,e,Int.toNat_natCast]
 omega
theorem s6{b:List Int}(hb:pZ b){s:bJ}(h:bQ s){m:Nat}{a:Atom}{p:Int}(hp:0≤p)(ha:lB m a):lB (m+1) (eU b s a p).1:=by
 obtain⟨d,e,h1,h2⟩:=pz hb hp (l:=[1,1,2]) (by simp) (by decide)
 simp only[eU,e,Int.toNat_natCast]
 exact Ip ha (A6 h2 (rl hb h d 1 (p+1) (by omega) h1)) _
theorem Lt{b:List Int}(hb:pZ b){s:bJ}(h:bQ s):∀(n m:Nat)(a:Atom)(p:Int),0≤p→lB m a→p≤(mr (eU b s) n a p).2∧(mr (eU b s) n a p).2≤p+n*17∧lB (m+n) (mr (eU b s) n a p).1
 | 0,m,a,p,hp,ha=>by simpa[mr] using ha
 | n+1,m,a,p,hp,ha=>by
   have h1:=A4 hb h (a:=a) hp
   have h2:=Lt hb h n (m+1) (eU b s a p).1 (eU b s a p).2 (by omega) (s6 hb h hp ha)
   simp only[mr]
   refine⟨by omega,by omega,?_⟩
   have:=h2.2.2
   rwa [show m+1+n=m+(n+1) by omega] at this
theorem FB{b:List Int}(hb:pZ b){s:bJ}(h:bQ s){p:Int}(hp:0≤p):p≤(gw b s p).2∧(gw b s p).2≤p+60∧lB 3 (gw b s p).1:=by
 unfold gw
 split
 ·obtain⟨d,e,h1,h2⟩:=pz hb (p:=p+2) (by omega) (l:=[1,2]) (by simp) (by decide)
  have k1:=rP (b:=b) h h2 (aZ b (p+1) 2) (p+3)
  simp only[e,Int.toNat_natCast]
  generalize cK b s d (aZ b (p+1) 2) (p+3)=x at k1⊢
  obtain⟨d2,e2,h3,h4⟩:=pz hb (p:=x.2) (by omega) (l:=[1,1,2]) (by simp) (by decide)
  have k2:=rP (b:=b) h h4 (aZ b (p+1) 2) (x.2+1)
  simp only[e2,Int.toNat_natCast]
  exact⟨by omega,by omega,⟨rfl,by simp,by simp⟩⟩
 ·have hm:=oO hb (p:=p+3) (l:=[1,2,2,3]) (by omega) (by simp)
  have hk:(dF b (p+3) [1,2,2,3]).toNat≤3:=by
   simp only[List.mem_cons,List.not_mem_nil,or_false] at hm
   omega
  have:=Lt hb h (dF b (p+3) [1,2,2,3]).toNat 0 ⟨2,ao,ao,[],[],dF b (p+1) [0,1,-1,2,3,-4],decide (aZ b (p+2) 3=0)⟩ (p+4) (by omega) ⟨rfl,by simp,by simp⟩
  refine⟨by omega,by omega,this.2.2.len,?_,this.2.2.sh⟩
  have:=this.2.2.Ra
  omega
def vl(b:List Int)(s:bJ)(p:Int):Atom×Int:=
 let r:=gw b s p
 let a:=r.1
 let c:=aZ b r.2 80
 if c=0 then(⟨dF b (r.2+1) [0,3,1,2],a.A,a.B,a.nums,a.times,a.bound,a.strict⟩,r.2+2) else
 if c=1 then(⟨a.kind,a.A,a.B,a.nums,a.times,dF b (r.2+1) [1001,-9223372036854775808,5],a.strict⟩,r.2+2) else
 if c=2 then(⟨a.kind,(Ad b s (r.2+1)).1,a.B,a.nums,a.times,a.bound,a.strict⟩,(Ad b s (r.2+1)).2) else
 if c=3 then(if 0<a.times.length then(⟨a.kind,a.A,a.B,a.nums,a.times.set 0 (dF b (r.2+1) [0,51,-9223372036854775808]),a.bound,a.strict⟩,r.2+2) else(a,r.2+1)) else
 if c=4 then(⟨a.kind,a.A,a.B,a.nums++[(cK b s 1 1 (r.2+1)).1],a.times,a.bound,a.strict⟩,(cK b s 1 1 (r.2+1)).2) else(a,r.2+1)
def JZ(b:List Int)(atoms:List Atom):Nat→Int→Form×Int
 | 0,p=>(QR,p)
 | d+1,p=>
   if d=0 then(.mk 1 ⟨atoms.getD (aZ b p atoms.length).toNat Dk,decide (aZ b (p+1) 3=0)⟩ [],p+2) else
   if aZ b p 4=0 then(.mk 1 ⟨atoms.getD (aZ b (p+1) atoms.length).toNat Dk,decide (aZ b (p+2) 3=0)⟩ [],p+3) else
   let k:=dF b (p+1) [3,4,4,5,3,6,2]
   let r:=fC (fun(_:Unit) q=>JZ b atoms d q) (List.replicate (Mh k).toNat ()) (p+2)
   (.mk k zK r.1,r.2)
mutual
def nodes:Form→Nat
 | .mk _ _ ks=>1+JY ks
def JY:List Form→Nat
 | []=>0
 | t::ts=>nodes t+JY ts
end
def KP(b:List Int)(s:bJ)(out:List Atom)(p:Int):List Atom×Int:=
 (if bO s (plain (out++[(gw b s p).1])) then(if Cj out (gw b s p).1<0 then out++[(gw b s p).1] else out) else out,(gw b s p).2)
def OY:Atom:=⟨1,.mk [97] [],.mk [97] [],[],[],0,false⟩
def Ou(b:List Int)(s:bJ)(p:Int):List Atom×Int:=
 let r:=mr (KP b s) (dF b p [2,3,4,5,1]).toNat [] (p+1)
 (if r.1.length=0 then r.1++[OY] else r.1,r.2)
def Qx(b:List Int)(p:Int):bJ×Form×Int:=
 let s:=(EP b p).1
 let a:=Ou b s (p+1)
 let r:=JZ b a.1 (dF b a.2 [3,4,2,3,1]).toNat (a.2+1)
 (s,r.1,r.2)
def OA(b:List Int)(p:Int):bJ×Form×Int:=
 let r:=Qx b p
 let f:=r.2.1
 let q:=r.2.2
 let c:=aZ b q 64
 if c=0 then(r.1,.mk (dF b (q+1) [0,7,1,2,3]) f.lit f.kids,q+2) else
 if c=1 then(r.1,.mk f.kind f.lit (f.kids++[f]),q+1) else
 if c=2 then(r.1,.mk f.kind ⟨(vl b r.1 (q+1)).1,false⟩ f.kids,(vl b r.1 (q+1)).2) else
 if c=3 then((dh b (dh b r.1 (q+1)).1 (dh b r.1 (q+1)).2).1,f,(dh b (dh b r.1 (q+1)).1 (dh b r.1 (q+1)).2).2) else(r.1,f,q+1)
def QF(b:List Int)(n:Nat)(p:Int):List Bool×Int:=
 let r:=fC (fun(_:Unit) q=>(decide (aZ b q 2=0),q+1)) (List.replicate n ()) p
 (if aZ b r.2 30=0 then r.1++[true] else r.1,r.2+1)
def Mt(b:List Int)(told:List Atom)(out:List Form)(p:Int):List Form×Int:=
 let r:=JZ b told (dF b p [2,3,1]).toNat (p+1)
 (out++[r.1],r.2)
def K1(b:List Int)(told:List Atom):Nat→List Form→Int→List Form×Int
 | 0,l,p=>(l,p)
 | n+1,l,p=>K1 b told n (l++[(JZ b told 1 p).1]) (JZ b told 1 p).2
def Kk(b:List Int)(p:Int):bJ×List Form×Int:=
 let s:=(EP b p).1
 let a:=Ou b s (p+1)
 let r:=mr (Mt b a.1) (dF b a.2 [2,3,1,4,0]).toNat [] (a.2+1)
 let c:=aZ b r.2 48
 if c=0 then(s,r.1++[(OA b (r.2+1)).2.1],(OA b (r.2+1)).2.2) else
 if c=1 then(s,(K1 b a.1 (6-r.1.length) r.1 (r.2+1)).1,(K1 b a.1 (6-r.1.length) r.1 (r.2+1)).2) else
 if c=2 then((dh b (dh b s (r.2+1)).1 (dh b s (r.2+1)).2).1,r.1,(dh b (dh b s (r.2+1)).1 (dh b s (r.2+1)).2).2) else(s,r.1,r.2+1)
def Ov(b:List Int):List Form×List Bool:=((Kk b 0).2.1,(QF b (rC [] (Kk b 0).2.1).length (Kk b 0).2.2).1)
end Go.Mod
