/-
  What is drawn from a code, in plain Lean: words, terms, atoms, forms. No program is walked here.
-/
import Derived.Test.YtnhdminpjihbnaaGreatKAEa
import Derived.Test.YtnhdminpjihbnaaGreatKADa
set_option linter.unusedVariables false
set_option linter.unusedSimpArgs false
open Bool renaming and_eq_true→ab,true_and→aN
open Int renaming toNat_natCast→aS,mul_le_mul_of_nonneg_right→kj
open List renaming getElem?_eq_getElem→ae,getElem_mem→ah,mem_cons→ax,length_append→ay,getD_eq_getElem?_getD→aE,replicate→aL,cons_append→bu,mem_singleton→bx,not_mem_nil→bB,mem_of_getElem?→du,length_nil→dW,length_singleton→fU
open Nat renaming pow_le_pow_right→cI,one_le_two_pow→dq
namespace Go.Mod
open Go.Eng
structure rT(b:List Int):Prop where
 len:b.length≤2000
 byte:∀x∈b,0≤x∧x≤255
theorem rT.getD{b:List Int}(h:rT b)(i:Nat):0≤b.getD i 0∧b.getD i 0≤255:=by
 rw[aE];cases hx:b[i]? with
 | none=>simp
 | some x=>exact h.byte x (du hx)
def x6(b:List Int)(p:Int):Int:=b.getD (p.tmod b.length).toNat 0*131+b.getD ((p*7+3).tmod b.length).toNat 0*1117+p*29+p.tdiv b.length*53
def cP(b:List Int)(p n:Int):Int:=
 if n<1 then 0 else if b.length=0 then 0 else
 if p<b.length then(b.getD p.toNat 0).tmod n else(UZ (x6 b p) ((x6 b p).tdiv 64)).tmod n
def iI(b:List Int)(p:Int)(l:List Int):Int:=l.getD (cP b p l.length).toNat 0
def YY(b:List Int)(p:Int)(l:List p8):p8:=l.getD (cP b p l.length).toNat []
theorem agO{b:List Int}(h:rT b){p:Int}(h1:0≤p)(h2:p≤1000000000)(h3:b.length≠0):0≤p.tdiv b.length∧p.tdiv b.length≤p∧0≤x6 b p∧x6 b p≤1000000000000:=by
 have e1:=h.getD (p.tmod b.length).toNat;have e2:=h.getD ((p*7+3).tmod b.length).toNat;have e3:0≤p.tdiv b.length:=Int.tdiv_nonneg h1 (Int.natCast_nonneg _);have e4:p.tdiv b.length≤p:=by rw[Int.tdiv_eq_ediv_of_nonneg h1];exact Int.ediv_le_self _ h1
 refine⟨e3,e4,?_,?_⟩<;>(unfold x6;omega)
theorem afz{b:List Int}(h:rT b){p n:Int}(h1:0≤p)(hn:1≤n):0≤cP b p n∧cP b p n<n:=by unfold cP;rw[if_neg oM];split;omega;split;have:=h.getD p.toNat;exact⟨Int.tmod_nonneg _ this.1,Int.tmod_lt_of_pos _ oM⟩;exact⟨Int.tmod_nonneg _ (aeR _ _),Int.tmod_lt_of_pos _ oM⟩
theorem u7{b:List Int}(h:rT b){p:Int}{n:Nat}(h1:0≤p)(hn:1≤n):∃k:Nat,cP b p n=k∧k<n:=by have:=afz h (p:=p) (n:=n) h1 oM;exact⟨(cP b p n).toNat,oM,oM⟩
theorem oQ{b:List Int}(h:rT b){p:Int}{l:List Int}(h1:0≤p)(hl:l≠[]):iI b p l∈l:=by
 have hn:1≤l.length:=by cases l with|nil=>exact(hl rfl).elim|cons=>simp
 obtain⟨k,e,hk⟩:=u7 h (n:=l.length) h1 hn;unfold iI;rw[e,aS,aE,ae hk];exact ah hk
theorem ae4{b:List Int}(h:rT b){p:Int}{l:List p8}(h1:0≤p)(hl:l≠[]):YY b p l∈l:=by
 have hn:1≤l.length:=by cases l with|nil=>exact(hl rfl).elim|cons=>simp
 obtain⟨k,e,hk⟩:=u7 h (n:=l.length) h1 hn;unfold YY;rw[e,aS,aE,ae hk];exact ah hk
def jl{α β:Type}(f:α→Int→β×Int):List α→Int→List β×Int
 | [],p=>([],p)
 | a::as,p=>((f a p).1::(jl f as (f a p).2).1,(jl f as (f a p).2).2)
theorem OL{α β:Type}(f:α→Int→β×Int)(x:α):∀(as:List α)(p:Int),jl f (as++[x]) p=((jl f as p).1++[(f x (jl f as p).2).1],(f x (jl f as p).2).2)
 | [],p=>rfl
 | a::as,p=>by simp only[bu,jl,OL f x as]
theorem PJ{α β:Type}(f:α→Int→β×Int){as:List α}{i:Nat}(h:i<as.length)(p:Int):jl f (as.take (i+1)) p=((jl f (as.take i) p).1++[(f as[i] (jl f (as.take i) p).2).1],(f as[i] (jl f (as.take i) p).2).2):=by
 have e:as.take (i+1)=as.take i++[as[i]]:=by rw[List.take_add_one,ae h];rfl
 rw[e,OL]
theorem Wd{α β:Type}{f:α→Int→β×Int}{c:Int}(hf:∀a p,p≤(f a p).2∧(f a p).2≤p+c):∀(as:List α)(p:Int),p≤(jl f as p).2∧(jl f as p).2≤p+as.length*c
 | [],p=>by simp[jl]
 | a::as,p=>by have h1:=hf a p;have h2:=Wd hf as (f a p).2;simp only[jl,List.length_cons];have:((as.length+1:Nat):Int)*c=as.length*c+c:=(by rw[Int.natCast_add,Int.add_mul];simp);omega
theorem Be{α β:Type}(f:α→Int→β×Int):∀(as:List α)(p:Int),(jl f as p).1.length=as.length
 | [],_=>rfl
 | a::as,p=>by simp[jl,Be f as]
def iY{α:Type}(f:α→Int→α×Int):Nat→α→Int→α×Int
 | 0,a,p=>(a,p)
 | n+1,a,p=>iY f n (f a p).1 (f a p).2
def Ff(k:Int):eV:=
 if k=0 then⟨[⟨[97],[],0⟩,⟨[98],[],0⟩,⟨[99],[],0⟩,⟨[102],[0],0⟩,⟨[103],[0,0],0⟩]⟩ else
 if k=1 then⟨[⟨[97],[],0⟩,⟨[98],[],0⟩,⟨[104],[0],1⟩,⟨[120],[],1⟩,⟨[121],[],1⟩]⟩ else
 if k=2 then⟨[⟨[107],[1],1⟩,⟨[120],[],1⟩,⟨[121],[],1⟩,⟨[122],[],1⟩]⟩ else
 if k=3 then⟨[⟨[97],[],0⟩,⟨[117],[1],0⟩,⟨[118],[1,0],1⟩,⟨[120],[],1⟩,⟨[121],[],1⟩]⟩ else⟨[]⟩
def nE(b:List Int)(p:Int):eV×Int:=(Ff (iI b p [0,0,1,1,2,3,1,4]),p+1)
def fe(s:eV):Prop:=s.cq.length≤7∧∀x∈s.cq,x.args.length≤2∧ig x.name=true
instance(s:eV):Decidable (fe s):=by unfold fe;infer_instance
theorem nQ(k:Int):fe (Ff k):=by unfold Ff;split;decide;split;decide;split;decide;split<;>decide
def akv(b:List Int)(p:Int)(x:Sym):Sym:=⟨YY b p [[],[65],[97,98,99],[122,122],[97]],x.args,x.sort⟩
def zX(b:List Int):Nat→List Sym→Int→List Sym×Int
 | 0,l,p=>(l,p)
 | n+1,l,p=>zX b n (l++[⟨122::YY b p [[97],[98],[122]],[],0⟩]) (p+1)
def jV(b:List Int)(s:eV)(p:Int):eV×Int:=
 if s.cq.length=0 then(s,p) else
 if 0<cP b p 8 then(s,p+1) else
 let k:=(cP b (p+1) s.cq.length).toNat
 let c:=cP b (p+2) 5
 let x:=s.cq.getD k ⟨[],[],0⟩
 if c=0 then(⟨s.cq.set k ⟨YY b (p+3) [[],[65],[97,98,99],[122,122],[97]],x.args,x.sort⟩⟩,p+4) else
 if c=1 then(⟨s.cq.set k ⟨x.name,x.args++[iI b (p+3) [0,2,-1,1]],x.sort⟩⟩,p+4) else
 if c=2 then(⟨s.cq.set k ⟨x.name,x.args,iI b (p+3) [1,2,-1,0]⟩⟩,p+4) else
 if c=3 then(⟨s.cq++[x]⟩,p+3) else
 (⟨(zX b (8-s.cq.length) s.cq (p+3)).1⟩,(zX b (8-s.cq.length) s.cq (p+3)).2)
theorem Q5(b:List Int):∀(n:Nat)(l:List Sym)(p:Int),(zX b n l p).2=p+n∧(zX b n l p).1.length=l.length+n
 | 0,_,_=>by simp[zX]
 | n+1,l,p=>by obtain⟨h1,h2⟩:=Q5 b n (l++[⟨122::YY b p [[97],[98],[122]],[],0⟩]) (p+1);simp only[zX,h1,h2,ay,fU];omega
theorem Kb(b:List Int)(s:eV)(p:Int):p≤(jV b s p).2∧(jV b s p).2≤p+20:=by
 have h1:=(Q5 b (8-s.cq.length) s.cq (p+3)).1;unfold jV;simp only;repeat' split
 all_goals(simp only[h1];omega)
def oO(s:eV)(sort:Int)(cE:Nat):List Sym:=s.cq.filter fun x=>decide (x.sort=sort)&&(decide (1<cE)||decide (x.args.length=0))
def jx(b:List Int)(s:eV):Nat→Int→Int→az×Int
 | 0,_,p=>(.mk [113] [],p)
 | d+1,sort,p=>
   if(oO s sort (d+1)).length=0 then(.mk [113] [],p) else
   let x:=(oO s sort (d+1)).getD (cP b p (oO s sort (d+1)).length).toNat zz
   (.mk x.name (jl (jx b s d) x.args (p+1)).1,(jl (jx b s d) x.args (p+1)).2)
theorem zF{s:eV}{sort:Int}{d:Nat}{i:Nat}(h:fe s):((oO s sort d).getD i zz).args.length≤2∧(i<(oO s sort d).length→ig ((oO s sort d).getD i zz).name=true∧(d≤1→((oO s sort d).getD i zz).args=[])):=by
 rw[aE];cases hx:(oO s sort d)[i]? with
 | none=>simp only[Option.getD_none];exact⟨by decide,fun hi=>by rw[ae hi] at hx;cases hx⟩
 | some x=>simp only[Option.getD_some];have hm:=du hx;rw[oO,List.mem_filter] at hm;obtain⟨h1,h2⟩:=h.2 x hm.1;refine⟨h1,fun _=>⟨h2,fun hd=>?_⟩⟩;have:=hm.2;simp only[ab,Bool.or_eq_true,decide_eq_true_eq] at this;rcases this.2 with h3|h3;omega;exact List.eq_nil_of_length_eq_zero h3
theorem two_pow_pos(d:Nat):(1:Int)≤2 ^ d∧(2:Int) ^ (d+1)=2*2 ^ d:=by
 have h:=dq (n:=d);have e:(2:Int) ^ d=((2 ^ d:Nat):Int):=by simp
 exact⟨oM,by rw[Int.pow_succ,Int.mul_comm]⟩
theorem G5{b:List Int}{s:eV}(h:fe s):∀(d:Nat)(sort p:Int),p≤(jx b s d sort p).2∧(jx b s d sort p).2≤p+(2 ^ d-1)
 | 0,_,p=>by simp[jx]
 | d+1,sort,p=>by have ih:=G5 (b:=b) h d;obtain⟨hp,hp2⟩:=two_pow_pos d;simp only[jx];split;simp only;omega;have h1:=(zF (sort:=sort) (d:=d+1) (i:=(cP b p (oO s sort (d+1)).length).toNat) h).1;generalize (oO s sort (d+1)).getD (cP b p (oO s sort (d+1)).length).toNat zz=x at h1⊢;have h2:=Wd (f:=jx b s d) (c:=2 ^ d-1) (fun a p=>ih a p) x.args (p+1);have h3:(x.args.length:Int)*(2 ^ d-1)≤2*(2 ^ d-1):=kj oM oM;simp only;omega
theorem Ms{d:Nat}:∀{ts:List az},(∀t∈ts,bX t d=true)→dj ts d=true
 | [],_=>by simp[dj]
 | t::ts,h=>by simp only[dj,h t (by simp),aN];exact Ms fun u hu=>h u (by simp[hu])
theorem qz{b:List Int}(hb:rT b){s:eV}(h:fe s):∀(d:Nat)(sort p:Int),0≤p→1≤d→bX (jx b s d sort p).1 d=true
 | 0,_,_,_,hd=>by omega
 | d+1,sort,p,hp,_=>by
  simp only[jx];split;simp only[bX,dj,dW];decide;rename_i nI;have hn:1≤(oO s sort (d+1)).length:=oM;obtain⟨k,e,hk⟩:=u7 hb (p:=p) hp hn;have h1:=zF (sort:=sort) (d:=d+1) (i:=k) h;rw[e,aS];generalize (oO s sort (d+1)).getD k zz=x at h1⊢;obtain⟨h2,h3⟩:=h1;obtain⟨h3,h4⟩:=h3 hk;simp only[bX,h3,aN,ab,decide_eq_true_eq];refine⟨by rw[Be];exact h2,?_⟩;rcases Nat.eq_zero_or_pos d with rfl|hd;rw[h4 (Nat.le_refl 1)];simp[jl,dj];refine Ms fun t ht=>?_;have key:∀(as:List Int)(q:Int),0≤q→∀t∈(jl (jx b s d) as q).1,bX t d=true:=by
   intro as;induction as with
   | nil=>intro q _ t h;simp[jl] at h
   | cons a as ih=>intro q hq t ht;simp only[jl,ax] at ht;rcases ht with rfl|ht;exact qz hb h d a q hq hd;exact ih _ (by have:=(G5 (b:=b) h d a q).1;omega) t ht
  exact key _ _ oM t ht
def Bn(b:List Int)(s:eV)(p:Int):az×Int:=
 let r:=jx b s (iI b (p+1) [2,3,1,4]).toNat (cP b p 2) (p+2)
 let c:=cP b r.2 48
 if c=0 then(.mk (YY b (r.2+1) [[],[65],[97,98,99],[102]]) r.1.ar,r.2+2) else
 if c=1 then(.mk r.1.name (r.1.ar++[r.1]),r.2+1) else
 if c=2 then(.mk r.1.name (r.1.ar++[r.1,r.1]),r.2+1) else(r.1,r.2+1)
theorem agt{b:List Int}(hb:rT b){s:eV}(h:fe s){p:Int}(hp:0≤p):p≤(Bn b s p).2∧(Bn b s p).2≤p+20:=by
 have hn:=oQ hb (p:=p+1) (l:=[2,3,1,4]) oM (by simp);have h1:=G5 (b:=b) h (iI b (p+1) [2,3,1,4]).toNat (cP b p 2) (p+2);have hc:(2:Int) ^ (iI b (p+1) [2,3,1,4]).toNat≤16:=by simp only[ax,bB,or_false] at hn;rcases hn with e|e|e|e<;>(rw[e];decide)
 unfold Bn;simp only;repeat' split
 all_goals(simp only;omega)
def nK(t:az)(n:Int):List az→List Int→Bool→List az×List Int
 | u::us,k::ks,done=>let now:=!done&& !kn (a7 u) (a7 t);let own:=decide (a7 u≠a7 t);let r:=nK t n us ks (done||now);((if now then [t] else [])++((if own then [u] else [])++r.1),(if now then [n] else [])++((if own then [k] else [])++r.2))
 | _,_,done=>if done then([],[]) else([t],[n])
def agF(a:bz)(t:az)(n:Int):bz:=⟨a.kind,aX,aX,(nK t n a.an a.bt false).1,(nK t n a.an a.bt false).2,a.bJ,a.cz⟩
theorem ON(t:az)(n:Int):∀(us:List az)(ks:List Int)(d:Bool),(nK t n us ks d).1.length=(nK t n us ks d).2.length∧(nK t n us ks d).1.length≤us.length+(if d then 0 else 1)
 | u::us,k::ks,d=>by simp only[nK];generalize decide (a7 u≠a7 t)=o;generalize kn (a7 u) (a7 t)=q;have h:=ON t n us ks (d||(!d&& !q));generalize nK t n us ks (d||(!d&& !q))=r at h;cases d<;>cases q<;>cases o<;>simp at h⊢<;>omega
 | [],_,d=>by cases d<;>simp[nK]
 | _::_,[],d=>by cases d<;>simp[nK]
def mC(b:List Int)(s:eV)(a:bz)(p:Int):bz×Int:=
 let r:=jx b s (iI b p [1,1,2]).toNat 1 (p+1)
 (agF a r.1 (iI b r.2 [1,-1,1,-1,2,-2]),r.2+1)
def ow(b:List Int)(s:eV)(p:Int):bz×Int:=
 if cP b p 2=0 then
  let x:=jx b s (iI b (p+2) [1,2]).toNat (cP b (p+1) 2) (p+3)
  let y:=jx b s (iI b x.2 [1,1,2]).toNat (cP b (p+1) 2) (x.2+1)
  (⟨1,x.1,y.1,[],[],0,false⟩,y.2)
 else iY (mC b s) (iI b (p+3) [1,2,2,3]).toNat ⟨2,aX,aX,[],[],iI b (p+1) [0,1,-1,2,3,-4],decide (cP b (p+2) 3=0)⟩ (p+4)
theorem TK{P:az→Prop}{t:az}{n:Int}(ht:P t):∀(us:List az)(ks:List Int)(d:Bool),(∀u∈us,P u)→∀u∈(nK t n us ks d).1,P u
 | u::us,k::ks,d,h,v,hv=>by have ih:=TK (n:=n) ht us ks (d||(!d&& !kn (a7 u) (a7 t))) (fun w hw=>h w (by simp[hw]));simp only[nK,List.mem_append] at hv;rcases hv with hv|hv|hv;split at hv;simp only[bx] at hv;rw[hv];exact ht;simp at hv;split at hv;simp only[bx] at hv;rw[hv];exact h u (by simp);simp at hv;exact ih v hv
 | [],_,d,_,v,hv=>by cases d<;>simp[nK] at hv;rw[hv];exact ht
 | _::_,[],d,_,v,hv=>by cases d<;>simp[nK] at hv;rw[hv];exact ht
theorem GD{t:az}:∀{d e:Nat},d≤e→bX t d=true→bX t e=true:=by
 intro d e h;induction e with
 | zero=>intro ht;obtain rfl:d=0:=oM
         exact ht
 | succ e ih=>intro ht;rcases Nat.lt_or_ge d (e+1) with h1|h1;exact HZ t e (ih oM ht);obtain rfl:d=e+1:=oM;exact ht
structure wV(m:Nat)(a:bz):Prop where
 len:a.an.length=a.bt.length
 few:a.an.length≤m
 sh:∀t∈a.an,bX t 4=true
theorem aaC{m:Nat}{a:bz}{t:az}(h:wV m a)(ht:bX t 4=true)(n:Int):wV (m+1) (agF a t n):=by obtain⟨h1,h2⟩:=ON t n a.an a.bt false;exact⟨h1,by have:=h.few;simp only[Bool.false_eq_true,if_false] at h2;simp only[agF];omega,TK (P:=fun t=>bX t 4=true) ht _ _ _ h.sh⟩
theorem qV{b:List Int}(hb:rT b){p:Int}(h1:0≤p){l:List Int}(hl:l≠[])(hd:∀x∈l,1≤x∧x≤4):∃d:Nat,iI b p l=d∧1≤d∧d≤4:=by have:=hd _ (oQ hb h1 hl);exact⟨(iI b p l).toNat,oM,oM,oM⟩
theorem vS{d e:Nat}(h:d≤e):(2:Int) ^ d≤2 ^ e:=by
 have:=cI (n:=2) oM h;have e1:(2:Int) ^ d=((2 ^ d:Nat):Int):=by simp
 have e2:(2:Int) ^ e=((2 ^ e:Nat):Int):=by simp
 rw[e1,e2];exact Int.ofNat_le.2 this
theorem yS{b:List Int}{s:eV}(h:fe s){d:Nat}(hd:d≤4)(sort p:Int):p≤(jx b s d sort p).2∧(jx b s d sort p).2≤p+15:=by have h1:=G5 (b:=b) h d sort p;have h2:=vS hd;omega
theorem OA{b:List Int}(hb:rT b){s:eV}(h:fe s){a:bz}{p:Int}(hp:0≤p):p≤(mC b s a p).2∧(mC b s a p).2≤p+17:=by obtain⟨d,e,h1,h2⟩:=qV hb hp (l:=[1,1,2]) (by simp) (by decide);have:=yS (b:=b) h h2 1 (p+1);simp only[mC,e,aS];omega
theorem Gs{b:List Int}(hb:rT b){s:eV}(h:fe s){m:Nat}{a:bz}{p:Int}(hp:0≤p)(ha:wV m a):wV (m+1) (mC b s a p).1:=by obtain⟨d,e,h1,h2⟩:=qV hb hp (l:=[1,1,2]) (by simp) (by decide);simp only[mC,e,aS];exact aaC ha (GD h2 (qz hb h d 1 (p+1) oM h1)) _
theorem abQ{b:List Int}(hb:rT b){s:eV}(h:fe s):∀(n m:Nat)(a:bz)(p:Int),0≤p→wV m a→p≤(iY (mC b s) n a p).2∧(iY (mC b s) n a p).2≤p+n*17∧wV (m+n) (iY (mC b s) n a p).1
 | 0,m,a,p,hp,ha=>by simpa[iY] using ha
 | n+1,m,a,p,hp,ha=>by
   have h1:=OA hb h (a:=a) hp
   have h2:=abQ hb h n (m+1) (mC b s a p).1 (mC b s a p).2 oM (Gs hb h hp ha)
   simp only[iY]
   refine⟨oM,oM,?_⟩
   have:=h2.2.2
   rwa [show m+1+n=m+(n+1) by omega] at this
theorem Lu{b:List Int}(hb:rT b){s:eV}(h:fe s){p:Int}(hp:0≤p):p≤(ow b s p).2∧(ow b s p).2≤p+60∧wV 3 (ow b s p).1:=by
 unfold ow;split;obtain⟨d,e,h1,h2⟩:=qV hb (p:=p+2) oM (l:=[1,2]) (by simp) (by decide);have k1:=yS (b:=b) h h2 (cP b (p+1) 2) (p+3);simp only[e,aS];generalize jx b s d (cP b (p+1) 2) (p+3)=x at k1⊢;obtain⟨d2,e2,h3,h4⟩:=qV hb (p:=x.2) oM (l:=[1,1,2]) (by simp) (by decide);have k2:=yS (b:=b) h h4 (cP b (p+1) 2) (x.2+1);simp only[e2,aS];exact⟨oM,oM,⟨rfl,by simp,by simp⟩⟩;have hm:=oQ hb (p:=p+3) (l:=[1,2,2,3]) oM (by simp);have hk:(iI b (p+3) [1,2,2,3]).toNat≤3:=by simp only[ax,bB,or_false] at hm;omega
 have:=abQ hb h (iI b (p+3) [1,2,2,3]).toNat 0 ⟨2,aX,aX,[],[],iI b (p+1) [0,1,-1,2,3,-4],decide (cP b (p+2) 3=0)⟩ (p+4) oM ⟨rfl,by simp,by simp⟩;refine⟨oM,oM,this.2.2.len,?_,this.2.2.sh⟩;have:=this.2.2.few;omega
def Bm(b:List Int)(s:eV)(p:Int):bz×Int:=
 let r:=ow b s p
 let a:=r.1
 let c:=cP b r.2 80
 if c=0 then(⟨iI b (r.2+1) [0,3,1,2],a.A,a.B,a.an,a.bt,a.bJ,a.cz⟩,r.2+2) else
 if c=1 then(⟨a.kind,a.A,a.B,a.an,a.bt,iI b (r.2+1) [1001,-9223372036854775808,5],a.cz⟩,r.2+2) else
 if c=2 then(⟨a.kind,(Bn b s (r.2+1)).1,a.B,a.an,a.bt,a.bJ,a.cz⟩,(Bn b s (r.2+1)).2) else
 if c=3 then(if 0<a.bt.length then(⟨a.kind,a.A,a.B,a.an,a.bt.set 0 (iI b (r.2+1) [0,51,-9223372036854775808]),a.bJ,a.cz⟩,r.2+2) else(a,r.2+1)) else
 if c=4 then(⟨a.kind,a.A,a.B,a.an++[(jx b s 1 1 (r.2+1)).1],a.bt,a.bJ,a.cz⟩,(jx b s 1 1 (r.2+1)).2) else(a,r.2+1)
theorem aeS{b:List Int}(hb:rT b){s:eV}(h:fe s){p:Int}(hp:0≤p):p≤(Bm b s p).2∧(Bm b s p).2≤p+100:=by
 have h1:=Lu hb h hp;have h2:=agt hb h (p:=(ow b s p).2+1) oM;have h3:=yS (b:=b) h (d:=1) oM 1 ((ow b s p).2+1);unfold Bm;simp only;repeat' split
 all_goals(simp only;omega)
def jR(b:List Int)(atoms:List bz):Nat→Int→aU×Int
 | 0,p=>(Dq,p)
 | d+1,p=>
   if d=0 then(.mk 1 ⟨atoms.getD (cP b p atoms.length).toNat tz,decide (cP b (p+1) 3=0)⟩ [],p+2) else
   if cP b p 4=0 then(.mk 1 ⟨atoms.getD (cP b (p+1) atoms.length).toNat tz,decide (cP b (p+2) 3=0)⟩ [],p+3) else
   let k:=iI b (p+1) [3,4,4,5,3,6,2]
   let r:=jl (fun(_:Unit) q=>jR b atoms d q) (aL (fG k).toNat ()) (p+2)
   (.mk k Hc r.1,r.2)
mutual
def nodes:aU→Nat
 | .mk _ _ ks=>1+pE ks
def pE:List aU→Nat
 | []=>0
 | t::ts=>nodes t+pE ts
end
theorem KO:∀(a c:List aU),pE (a++c)=pE a+pE c
 | [],c=>by simp[pE]
 | t::a,c=>by simp only[bu,pE,KO a c];omega
theorem VG{k:Int}(h:k=3∨k=4∨k=5∨k=6∨k=2):1≤fG k∧fG k≤2:=by rcases h with rfl|rfl|rfl|rfl|rfl<;>decide
theorem GA{b:List Int}(hb:rT b){p:Int}(hp:0≤p):1≤fG (iI b p [3,4,4,5,3,6,2])∧fG (iI b p [3,4,4,5,3,6,2])≤2:=by have hm:=oQ hb (p:=p) (l:=[3,4,4,5,3,6,2]) hp (by simp);simp only[ax,bB,or_false] at hm;exact VG oM
theorem DE{b:List Int}(hb:rT b){atoms:List bz}:∀(d:Nat)(p:Int),0≤p→p≤(jR b atoms d p).2∧(jR b atoms d p).2≤p+4*(2 ^ d-1)∧(1≤d→nodes (jR b atoms d p).1+1≤2 ^ d)
 | 0,p,_=>by simp[jR]
 | d+1,p,hp=>by
  have ih:=DE (atoms:=atoms) hb d;obtain⟨hq,hq2⟩:=two_pow_pos d;have hN:(2:Nat) ^ (d+1)=2*2 ^ d:=(by rw[Nat.pow_succ];omega);have hN1:=dq (n:=d);simp only[jR];split;simp only[nodes,pE];omega;rename_i hd0;have UJ:1≤d:=oM;have hd2:2≤2 ^ d:=(by have:=cI (n:=2) oM UJ;omega);split;simp only[nodes,pE];omega;have hk:=GA hb (p:=p+1) oM;generalize iI b (p+1) [3,4,4,5,3,6,2]=k at hk⊢;have key:∀(n:Nat)(q:Int),0≤q→q≤(jl (fun(_:Unit) q=>jR b atoms d q) (aL n ()) q).2∧(jl (fun(_:Unit) q=>jR b atoms d q) (aL n ()) q).2≤q+n*(4*(2 ^ d-1))∧pE (jl (fun(_:Unit) q=>jR b atoms d q) (aL n ()) q).1+n≤n*2 ^ d:=by
   intro n;induction n with
   | zero=>intro q hq;simp[jl,pE]
   | succ n ihn=>intro q hq;obtain⟨a1,a2,a3⟩:=ih q hq;have a3:=a3 UJ;obtain⟨b1,b2,b3⟩:=ihn (jR b atoms d q).2 oM;simp only[List.replicate_succ,jl,pE];have e1:((n+1:Nat):Int)*(4*(2 ^ d-1))=n*(4*(2 ^ d-1))+4*(2 ^ d-1):=(by rw[Int.natCast_add,Int.add_mul];simp);have e2:(n+1)*2 ^ d=n*2 ^ d+2 ^ d:=(by rw[Nat.add_mul];omega);omega
  obtain⟨c1,c2,c3⟩:=key (fG k).toNat (p+2) oM;have e1:((fG k).toNat:Int)*(4*(2 ^ d-1))≤2*(4*(2 ^ d-1)):=kj oM oM;have e2:(fG k).toNat*2 ^ d≤2*2 ^ d:=Nat.mul_le_mul_right _ oM;simp only[nodes];have e3:(fG k).toNat=1∨(fG k).toNat=2:=oM;refine⟨oM,oM,fun _=>?_⟩;rcases e3 with e3|e3<;>(rw[e3] at c3⊢;omega)
def ld(b:List Int)(s:eV)(out:List bz)(p:Int):List bz×Int:=
 (if gO s (plain (out++[(ow b s p).1])) then(if dk out (ow b s p).1<0 then out++[(ow b s p).1] else out) else out,(ow b s p).2)
def aiw:bz:=⟨1,.mk [97] [],.mk [97] [],[],[],0,false⟩
def mg(b:List Int)(s:eV)(p:Int):List bz×Int:=
 let r:=iY (ld b s) (iI b p [2,3,4,5,1]).toNat [] (p+1)
 (if r.1.length=0 then r.1++[aiw] else r.1,r.2)
theorem YH{b:List Int}(hb:rT b){s:eV}(h:fe s):∀(n:Nat)(l:List bz)(p:Int),0≤p→p≤(iY (ld b s) n l p).2∧(iY (ld b s) n l p).2≤p+n*60∧(iY (ld b s) n l p).1.length≤l.length+n
 | 0,l,p,_=>by simp[iY]
 | n+1,l,p,hp=>by
  have h1:=Lu hb h hp;have h2:=YH hb h n (ld b s l p).1 (ld b s l p).2 (by simp only[ld];omega);have h3:(ld b s l p).1.length≤l.length+1:=by
   simp only[ld];repeat' split
   all_goals simp
  simp only[iY];have e:(ld b s l p).2=(ow b s p).2:=rfl;rw[e] at h2⊢;omega
theorem Cg{b:List Int}(hb:rT b){s:eV}(h:fe s){p:Int}(hp:0≤p):p≤(mg b s p).2∧(mg b s p).2≤p+400∧1≤(mg b s p).1.length∧(mg b s p).1.length≤10:=by
 have hm:=oQ hb (p:=p) (l:=[2,3,4,5,1]) hp (by simp);have hk:(iI b p [2,3,4,5,1]).toNat≤5:=by simp only[ax,bB,or_false] at hm;omega
 have h1:=YH hb h (iI b p [2,3,4,5,1]).toNat [] (p+1) oM;simp only[mg];simp only[dW] at h1;split;rename_i h0;simp only[ay,fU];omega;omega
def lO(b:List Int)(p:Int):eV×aU×Int:=
 let s:=(nE b p).1
 let a:=mg b s (p+1)
 let r:=jR b a.1 (iI b a.2 [3,4,2,3,1]).toNat (a.2+1)
 (s,r.1,r.2)
theorem R1{b:List Int}(hb:rT b){p:Int}(hp:0≤p):p≤(lO b p).2.2∧(lO b p).2.2≤p+500∧nodes (lO b p).2.1≤20∧fe (lO b p).1:=by have h1:=Cg hb (s:=(nE b p).1) (nQ _) (p:=p+1) oM;obtain⟨d,e,h2,h3⟩:=qV hb (p:=(mg b (nE b p).1 (p+1)).2) oM (l:=[3,4,2,3,1]) (by simp) (by decide);have h4:=DE hb (atoms:=(mg b (nE b p).1 (p+1)).1) d ((mg b (nE b p).1 (p+1)).2+1) oM;have h5:=vS h3;have h6:=cI (n:=2) oM h3;simp only[lO,e,aS];obtain⟨k1,k2,k3⟩:=h4;have k3:=k3 h2;exact⟨oM,oM,oM,nQ _⟩
def uo(b:List Int)(p:Int):eV×aU×Int:=
 let r:=lO b p
 let f:=r.2.1
 let q:=r.2.2
 let c:=cP b q 64
 if c=0 then(r.1,.mk (iI b (q+1) [0,7,1,2,3]) f.lit f.ar,q+2) else
 if c=1 then(r.1,.mk f.kind f.lit (f.ar++[f]),q+1) else
 if c=2 then(r.1,.mk f.kind ⟨(Bm b r.1 (q+1)).1,false⟩ f.ar,(Bm b r.1 (q+1)).2) else
 if c=3 then((jV b (jV b r.1 (q+1)).1 (jV b r.1 (q+1)).2).1,f,(jV b (jV b r.1 (q+1)).1 (jV b r.1 (q+1)).2).2) else(r.1,f,q+1)
theorem abY(k:Int)(l:cC)(f:aU):nodes (.mk k l f.ar)=nodes f:=by cases f;rfl
theorem agq{b:List Int}(hb:rT b){p:Int}(hp:0≤p):p≤(uo b p).2.2∧(uo b p).2.2≤p+700∧nodes (uo b p).2.1≤41:=by
 obtain⟨h1,h2,h3,h4⟩:=R1 hb hp;have h5:=aeS hb h4 (p:=(lO b p).2.2+1) oM;have h6:=Kb b (lO b p).1 ((lO b p).2.2+1);have h7:=Kb b (jV b (lO b p).1 ((lO b p).2.2+1)).1 (jV b (lO b p).1 ((lO b p).2.2+1)).2;have h8:nodes (.mk (lO b p).2.1.kind (lO b p).2.1.lit ((lO b p).2.1.ar++[(lO b p).2.1]))=nodes (lO b p).2.1+nodes (lO b p).2.1:=by
  cases(lO b p).2.1 with
  | mk k l ks=>simp only[aU.ar,nodes,KO,pE];omega
 unfold uo;simp only;repeat' split
 all_goals(simp only[abY,h8];omega)
def ajD(b:List Int)(n:Nat)(p:Int):List Bool×Int:=
 let r:=jl (fun(_:Unit) q=>(decide (cP b q 2=0),q+1)) (aL n ()) p
 (if cP b r.2 30=0 then r.1++[true] else r.1,r.2+1)
def abi(b:List Int)(nC:List bz)(out:List aU)(p:Int):List aU×Int:=
 let r:=jR b nC (iI b p [2,3,1]).toNat (p+1)
 (out++[r.1],r.2)
def abC(b:List Int)(nC:List bz):Nat→List aU→Int→List aU×Int
 | 0,l,p=>(l,p)
 | n+1,l,p=>abC b nC n (l++[(jR b nC 1 p).1]) (jR b nC 1 p).2
def aco(b:List Int)(p:Int):eV×List aU×Int:=
 let s:=(nE b p).1
 let a:=mg b s (p+1)
 let r:=iY (abi b a.1) (iI b a.2 [2,3,1,4,0]).toNat [] (a.2+1)
 let c:=cP b r.2 48
 if c=0 then(s,r.1++[(uo b (r.2+1)).2.1],(uo b (r.2+1)).2.2) else
 if c=1 then(s,(abC b a.1 (6-r.1.length) r.1 (r.2+1)).1,(abC b a.1 (6-r.1.length) r.1 (r.2+1)).2) else
 if c=2 then((jV b (jV b s (r.2+1)).1 (jV b s (r.2+1)).2).1,r.1,(jV b (jV b s (r.2+1)).1 (jV b s (r.2+1)).2).2) else(s,r.1,r.2+1)
def ag5(b:List Int):List aU×List Bool:=((aco b 0).2.1,(ajD b (bF [] (aco b 0).2.1).length (aco b 0).2.2).1)
end Go.Mod
