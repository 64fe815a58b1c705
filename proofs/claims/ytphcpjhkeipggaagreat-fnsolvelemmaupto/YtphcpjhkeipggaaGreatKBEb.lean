/-
  What is drawn from a code, in plain Lean: words, terms, atoms, forms. No program is walked here.
-/
import Derived.Test.YtphcpjhkeipggaaGreatKBEa
import Derived.Test.YtphcpjhkeipggaaGreatKBDa
set_option linter.unusedVariables false
set_option linter.unusedSimpArgs false
open Bool renaming and_eq_true→ah,true_and→aA
open Int renaming toNat_natCast→bc,mul_le_mul_of_nonneg_right→jZ
open List renaming getElem?_eq_getElem→af,getElem_mem→aj,mem_cons→az,getD_eq_getElem?_getD→aB,replicate→aE,length_append→aP,length_cons→aY,not_mem_nil→bf,cons_append→bI,mem_singleton→cO,length_nil→c8,mem_of_getElem?→dH,length_singleton→fh,replicate_succ→gF
open Nat renaming le_refl→aK,pow_le_pow_right→dJ,one_le_two_pow→eH
namespace Go.Mod
open Go.Eng
structure uq(b:List Int):Prop where
 len:b.length≤2000
 byte:∀x∈b,0≤x∧x≤255
theorem uq.getD{b:List Int}(h:uq b)(i:Nat):0≤b.getD i 0∧b.getD i 0≤255:=by
 rw[aB];cases hx:b[i]? with
 | none=>simp
 | some x=>exact h.byte x (dH hx)
def yf(b:List Int)(p:Int):Int:=b.getD (p.tmod b.length).toNat 0*131+b.getD ((p*7+3).tmod b.length).toNat 0*1117+p*29+p.tdiv b.length*53
def cF(b:List Int)(p n:Int):Int:=
 if n<1 then 0 else if b.length=0 then 0 else
 if p<b.length then(b.getD p.toNat 0).tmod n else(RX (yf b p) ((yf b p).tdiv 64)).tmod n
def jL(b:List Int)(p:Int)(l:List Int):Int:=l.getD (cF b p l.length).toNat 0
def Xm(b:List Int)(p:Int)(l:List pL):pL:=l.getD (cF b p l.length).toNat []
theorem ad8{b:List Int}(h:uq b){p:Int}(h1:0≤p)(h2:p≤1000000000)(h3:b.length≠0):0≤p.tdiv b.length∧p.tdiv b.length≤p∧0≤yf b p∧yf b p≤1000000000000:=by
 have e1:=h.getD (p.tmod b.length).toNat;have e2:=h.getD ((p*7+3).tmod b.length).toNat;have e3:0≤p.tdiv b.length:=Int.tdiv_nonneg h1 (Int.natCast_nonneg _);have e4:p.tdiv b.length≤p:=by rw[Int.tdiv_eq_ediv_of_nonneg h1];exact Int.ediv_le_self _ h1
 refine⟨e3,e4,?_,?_⟩<;>(unfold yf;omega)
theorem Ro{b:List Int}(h:uq b){p n:Int}(h1:0≤p)(hn:1≤n):0≤cF b p n∧cF b p n<n:=by unfold cF;rw[if_neg oM];split;omega;split;have:=h.getD p.toNat;exact⟨Int.tmod_nonneg _ this.1,Int.tmod_lt_of_pos _ oM⟩;exact⟨Int.tmod_nonneg _ (adn _ _),Int.tmod_lt_of_pos _ oM⟩
theorem uV{b:List Int}(h:uq b){p:Int}{n:Nat}(h1:0≤p)(hn:1≤n):∃k:Nat,cF b p n=k∧k<n:=by have:=Ro h (p:=p) (n:=n) h1 oM;exact⟨(cF b p n).toNat,oM,oM⟩
theorem ri{b:List Int}(h:uq b){p:Int}{l:List Int}(h1:0≤p)(hl:l≠[]):jL b p l∈l:=by
 have hn:1≤l.length:=by cases l with|nil=>exact(hl rfl).elim|cons=>simp
 obtain⟨k,e,hk⟩:=uV h (n:=l.length) h1 hn;unfold jL;rw[e,bc,aB,af hk];exact aj hk
theorem aex{b:List Int}(h:uq b){p:Int}{l:List pL}(h1:0≤p)(hl:l≠[]):Xm b p l∈l:=by
 have hn:1≤l.length:=by cases l with|nil=>exact(hl rfl).elim|cons=>simp
 obtain⟨k,e,hk⟩:=uV h (n:=l.length) h1 hn;unfold Xm;rw[e,bc,aB,af hk];exact aj hk
def gM{α β:Type}(f:α→Int→β×Int):List α→Int→List β×Int
 | [],p=>([],p)
 | a::as,p=>((f a p).1::(gM f as (f a p).2).1,(gM f as (f a p).2).2)
theorem O9{α β:Type}(f:α→Int→β×Int)(x:α):∀(as:List α)(p:Int),gM f (as++[x]) p=((gM f as p).1++[(f x (gM f as p).2).1],(f x (gM f as p).2).2)
 | [],p=>rfl
 | a::as,p=>by simp only[bI,gM,O9 f x as]
theorem Gw{α β:Type}(f:α→Int→β×Int){as:List α}{i:Nat}(h:i<as.length)(p:Int):gM f (as.take (i+1)) p=((gM f (as.take i) p).1++[(f as[i] (gM f (as.take i) p).2).1],(f as[i] (gM f (as.take i) p).2).2):=by
 have e:as.take (i+1)=as.take i++[as[i]]:=by rw[List.take_add_one,af h];rfl
 rw[e,O9]
theorem Wa{α β:Type}{f:α→Int→β×Int}{c:Int}(hf:∀a p,p≤(f a p).2∧(f a p).2≤p+c):∀(as:List α)(p:Int),p≤(gM f as p).2∧(gM f as p).2≤p+as.length*c
 | [],p=>by simp[gM]
 | a::as,p=>by have h1:=hf a p;have h2:=Wa hf as (f a p).2;simp only[gM,aY];have:((as.length+1:Nat):Int)*c=as.length*c+c:=(by rw[Int.natCast_add,Int.add_mul];simp);omega
theorem vJ{α β:Type}(f:α→Int→β×Int):∀(as:List α)(p:Int),(gM f as p).1.length=as.length
 | [],_=>rfl
 | a::as,p=>by simp[gM,vJ f as]
def kY{α:Type}(f:α→Int→α×Int):Nat→α→Int→α×Int
 | 0,a,p=>(a,p)
 | n+1,a,p=>kY f n (f a p).1 (f a p).2
def Eu(k:Int):eM:=
 if k=0 then⟨[⟨[97],[],0⟩,⟨[98],[],0⟩,⟨[99],[],0⟩,⟨[102],[0],0⟩,⟨[103],[0,0],0⟩]⟩ else
 if k=1 then⟨[⟨[97],[],0⟩,⟨[98],[],0⟩,⟨[104],[0],1⟩,⟨[120],[],1⟩,⟨[121],[],1⟩]⟩ else
 if k=2 then⟨[⟨[107],[1],1⟩,⟨[120],[],1⟩,⟨[121],[],1⟩,⟨[122],[],1⟩]⟩ else
 if k=3 then⟨[⟨[97],[],0⟩,⟨[117],[1],0⟩,⟨[118],[1,0],1⟩,⟨[120],[],1⟩,⟨[121],[],1⟩]⟩ else⟨[]⟩
def qG(b:List Int)(p:Int):eM×Int:=(Eu (jL b p [0,0,1,1,2,3,1,4]),p+1)
def gI(s:eM):Prop:=s.cQ.length≤7∧∀x∈s.cQ,x.args.length≤2∧gO x.name=true
instance(s:eM):Decidable (gI s):=by unfold gI;infer_instance
theorem vC(k:Int):gI (Eu k):=by unfold Eu;split;decide;split;decide;split;decide;split<;>decide
def aic(b:List Int)(p:Int)(x:Sym):Sym:=⟨Xm b p [[],[65],[97,98,99],[122,122],[97]],x.args,x.sort⟩
def zP(b:List Int):Nat→List Sym→Int→List Sym×Int
 | 0,l,p=>(l,p)
 | n+1,l,p=>zP b n (l++[⟨122::Xm b p [[97],[98],[122]],[],0⟩]) (p+1)
def kW(b:List Int)(s:eM)(p:Int):eM×Int:=
 if s.cQ.length=0 then(s,p) else
 if 0<cF b p 8 then(s,p+1) else
 let k:=(cF b (p+1) s.cQ.length).toNat
 let c:=cF b (p+2) 5
 let x:=s.cQ.getD k ⟨[],[],0⟩
 if c=0 then(⟨s.cQ.set k ⟨Xm b (p+3) [[],[65],[97,98,99],[122,122],[97]],x.args,x.sort⟩⟩,p+4) else
 if c=1 then(⟨s.cQ.set k ⟨x.name,x.args++[jL b (p+3) [0,2,-1,1]],x.sort⟩⟩,p+4) else
 if c=2 then(⟨s.cQ.set k ⟨x.name,x.args,jL b (p+3) [1,2,-1,0]⟩⟩,p+4) else
 if c=3 then(⟨s.cQ++[x]⟩,p+3) else
 (⟨(zP b (8-s.cQ.length) s.cQ (p+3)).1⟩,(zP b (8-s.cQ.length) s.cQ (p+3)).2)
theorem PN(b:List Int):∀(n:Nat)(l:List Sym)(p:Int),(zP b n l p).2=p+n∧(zP b n l p).1.length=l.length+n
 | 0,_,_=>by simp[zP]
 | n+1,l,p=>by obtain⟨h1,h2⟩:=PN b n (l++[⟨122::Xm b p [[97],[98],[122]],[],0⟩]) (p+1);simp only[zP,h1,h2,aP,fh];omega
theorem BG(b:List Int)(s:eM)(p:Int):p≤(kW b s p).2∧(kW b s p).2≤p+20:=by
 have h1:=(PN b (8-s.cQ.length) s.cQ (p+3)).1;unfold kW;simp only;repeat' split
 all_goals(simp only[h1];omega)
def o0(s:eM)(sort:Int)(bn:Nat):List Sym:=s.cQ.filter fun x=>decide (x.sort=sort)&&(decide (1<bn)||decide (x.args.length=0))
def jE(b:List Int)(s:eM):Nat→Int→Int→ax×Int
 | 0,_,p=>(.mk [113] [],p)
 | d+1,sort,p=>
   if(o0 s sort (d+1)).length=0 then(.mk [113] [],p) else
   let x:=(o0 s sort (d+1)).getD (cF b p (o0 s sort (d+1)).length).toNat zw
   (.mk x.name (gM (jE b s d) x.args (p+1)).1,(gM (jE b s d) x.args (p+1)).2)
theorem zy{s:eM}{sort:Int}{d:Nat}{i:Nat}(h:gI s):((o0 s sort d).getD i zw).args.length≤2∧(i<(o0 s sort d).length→gO ((o0 s sort d).getD i zw).name=true∧(d≤1→((o0 s sort d).getD i zw).args=[])):=by
 rw[aB];cases hx:(o0 s sort d)[i]? with
 | none=>simp only[Option.getD_none];exact⟨by decide,fun hi=>by rw[af hi] at hx;cases hx⟩
 | some x=>simp only[Option.getD_some];have hm:=dH hx;rw[o0,List.mem_filter] at hm;obtain⟨h1,h2⟩:=h.2 x hm.1;refine⟨h1,fun _=>⟨h2,fun hd=>?_⟩⟩;have:=hm.2;simp only[ah,Bool.or_eq_true,decide_eq_true_eq] at this;rcases this.2 with h3|h3;omega;exact List.eq_nil_of_length_eq_zero h3
theorem two_pow_pos(d:Nat):(1:Int)≤2 ^ d∧(2:Int) ^ (d+1)=2*2 ^ d:=by
 have h:=eH (n:=d);have e:(2:Int) ^ d=((2 ^ d:Nat):Int):=by simp
 exact⟨oM,by rw[Int.pow_succ,Int.mul_comm]⟩
theorem Gs{b:List Int}{s:eM}(h:gI s):∀(d:Nat)(sort p:Int),p≤(jE b s d sort p).2∧(jE b s d sort p).2≤p+(2 ^ d-1)
 | 0,_,p=>by simp[jE]
 | d+1,sort,p=>by have ih:=Gs (b:=b) h d;obtain⟨hp,hp2⟩:=two_pow_pos d;simp only[jE];split;simp only;omega;have h1:=(zy (sort:=sort) (d:=d+1) (i:=(cF b p (o0 s sort (d+1)).length).toNat) h).1;generalize (o0 s sort (d+1)).getD (cF b p (o0 s sort (d+1)).length).toNat zw=x at h1⊢;have h2:=Wa (f:=jE b s d) (c:=2 ^ d-1) (fun a p=>ih a p) x.args (p+1);have h3:(x.args.length:Int)*(2 ^ d-1)≤2*(2 ^ d-1):=jZ oM oM;simp only;omega
theorem KJ{d:Nat}:∀{ts:List ax},(∀t∈ts,cd t d=true)→dz ts d=true
 | [],_=>by simp[dz]
 | t::ts,h=>by simp only[dz,h t (by simp),aA];exact KJ fun u hu=>h u (by simp[hu])
theorem Dd{b:List Int}(hb:uq b){s:eM}(h:gI s):∀(d:Nat)(sort p:Int),0≤p→1≤d→cd (jE b s d sort p).1 d=true
 | 0,_,_,_,hd=>by omega
 | d+1,sort,p,hp,_=>by
  simp only[jE];split;simp only[cd,dz,c8];decide;rename_i lj;have hn:1≤(o0 s sort (d+1)).length:=oM;obtain⟨k,e,hk⟩:=uV hb (p:=p) hp hn;have h1:=zy (sort:=sort) (d:=d+1) (i:=k) h;rw[e,bc];generalize (o0 s sort (d+1)).getD k zw=x at h1⊢;obtain⟨h2,h3⟩:=h1;obtain⟨h3,h4⟩:=h3 hk;simp only[cd,h3,aA,ah,decide_eq_true_eq];refine⟨by rw[vJ];exact h2,?_⟩;rcases Nat.eq_zero_or_pos d with rfl|hd;rw[h4 (aK 1)];simp[gM,dz];refine KJ fun t ht=>?_;have key:∀(as:List Int)(q:Int),0≤q→∀t∈(gM (jE b s d) as q).1,cd t d=true:=by
   intro as;induction as with
   | nil=>intro q _ t h;simp[gM] at h
   | cons a as ih=>intro q hq t ht;simp only[gM,az] at ht;rcases ht with rfl|ht;exact Dd hb h d a q hq hd;exact ih _ (by have:=(Gs (b:=b) h d a q).1;omega) t ht
  exact key _ _ oM t ht
def E3(b:List Int)(s:eM)(p:Int):ax×Int:=
 let r:=jE b s (jL b (p+1) [2,3,1,4]).toNat (cF b p 2) (p+2)
 let c:=cF b r.2 48
 if c=0 then(.mk (Xm b (r.2+1) [[],[65],[97,98,99],[102]]) r.1.ar,r.2+2) else
 if c=1 then(.mk r.1.name (r.1.ar++[r.1]),r.2+1) else
 if c=2 then(.mk r.1.name (r.1.ar++[r.1,r.1]),r.2+1) else(r.1,r.2+1)
theorem adf{b:List Int}(hb:uq b){s:eM}(h:gI s){p:Int}(hp:0≤p):p≤(E3 b s p).2∧(E3 b s p).2≤p+20:=by
 have hn:=ri hb (p:=p+1) (l:=[2,3,1,4]) oM (by simp);have h1:=Gs (b:=b) h (jL b (p+1) [2,3,1,4]).toNat (cF b p 2) (p+2);have hc:(2:Int) ^ (jL b (p+1) [2,3,1,4]).toNat≤16:=by simp only[az,bf,or_false] at hn;rcases hn with e|e|e|e<;>(rw[e];decide)
 unfold E3;simp only;repeat' split
 all_goals(simp only;omega)
def nv(t:ax)(n:Int):List ax→List Int→Bool→List ax×List Int
 | u::us,k::ks,done=>let now:=!done&& !iQ (aR u) (aR t);let own:=decide (aR u≠aR t);let r:=nv t n us ks (done||now);((if now then [t] else [])++((if own then [u] else [])++r.1),(if now then [n] else [])++((if own then [k] else [])++r.2))
 | _,_,done=>if done then([],[]) else([t],[n])
def adD(a:cR)(t:ax)(n:Int):cR:=⟨a.kind,aQ,aQ,(nv t n a.ai a.a8 false).1,(nv t n a.ai a.a8 false).2,a.bj,a.bJ⟩
theorem Ot(t:ax)(n:Int):∀(us:List ax)(ks:List Int)(d:Bool),(nv t n us ks d).1.length=(nv t n us ks d).2.length∧(nv t n us ks d).1.length≤us.length+(if d then 0 else 1)
 | u::us,k::ks,d=>by simp only[nv];generalize decide (aR u≠aR t)=o;generalize iQ (aR u) (aR t)=q;have h:=Ot t n us ks (d||(!d&& !q));generalize nv t n us ks (d||(!d&& !q))=r at h;cases d<;>cases q<;>cases o<;>simp at h⊢<;>omega
 | [],_,d=>by cases d<;>simp[nv]
 | _::_,[],d=>by cases d<;>simp[nv]
def nL(b:List Int)(s:eM)(a:cR)(p:Int):cR×Int:=
 let r:=jE b s (jL b p [1,1,2]).toNat 1 (p+1)
 (adD a r.1 (jL b r.2 [1,-1,1,-1,2,-2]),r.2+1)
def qh(b:List Int)(s:eM)(p:Int):cR×Int:=
 if cF b p 2=0 then
  let x:=jE b s (jL b (p+2) [1,2]).toNat (cF b (p+1) 2) (p+3)
  let y:=jE b s (jL b x.2 [1,1,2]).toNat (cF b (p+1) 2) (x.2+1)
  (⟨1,x.1,y.1,[],[],0,false⟩,y.2)
 else kY (nL b s) (jL b (p+3) [1,2,2,3]).toNat ⟨2,aQ,aQ,[],[],jL b (p+1) [0,1,-1,2,3,-4],decide (cF b (p+2) 3=0)⟩ (p+4)
theorem TT{P:ax→Prop}{t:ax}{n:Int}(ht:P t):∀(us:List ax)(ks:List Int)(d:Bool),(∀u∈us,P u)→∀u∈(nv t n us ks d).1,P u
 | u::us,k::ks,d,h,v,hv=>by have ih:=TT (n:=n) ht us ks (d||(!d&& !iQ (aR u) (aR t))) (fun w hw=>h w (by simp[hw]));simp only[nv,List.mem_append] at hv;rcases hv with hv|hv|hv;split at hv;simp only[cO] at hv;rw[hv];exact ht;simp at hv;split at hv;simp only[cO] at hv;rw[hv];exact h u (by simp);simp at hv;exact ih v hv
 | [],_,d,_,v,hv=>by cases d<;>simp[nv] at hv;rw[hv];exact ht
 | _::_,[],d,_,v,hv=>by cases d<;>simp[nv] at hv;rw[hv];exact ht
theorem OZ{t:ax}:∀{d e:Nat},d≤e→cd t d=true→cd t e=true:=by
 intro d e h;induction e with
 | zero=>intro ht;obtain rfl:d=0:=oM
         exact ht
 | succ e ih=>intro ht;rcases Nat.lt_or_ge d (e+1) with h1|h1;exact GV t e (ih oM ht);obtain rfl:d=e+1:=oM;exact ht
structure wy(m:Nat)(a:cR):Prop where
 len:a.ai.length=a.a8.length
 few:a.ai.length≤m
 sh:∀t∈a.ai,cd t 4=true
theorem XL{m:Nat}{a:cR}{t:ax}(h:wy m a)(ht:cd t 4=true)(n:Int):wy (m+1) (adD a t n):=by obtain⟨h1,h2⟩:=Ot t n a.ai a.a8 false;exact⟨h1,by have:=h.few;simp only[Bool.false_eq_true,if_false] at h2;simp only[adD];omega,TT (P:=fun t=>cd t 4=true) ht _ _ _ h.sh⟩
theorem w7{b:List Int}(hb:uq b){p:Int}(h1:0≤p){l:List Int}(hl:l≠[])(hd:∀x∈l,1≤x∧x≤4):∃d:Nat,jL b p l=d∧1≤d∧d≤4:=by have:=hd _ (ri hb h1 hl);exact⟨(jL b p l).toNat,oM,oM,oM⟩
theorem DV{d e:Nat}(h:d≤e):(2:Int) ^ d≤2 ^ e:=by
 have:=dJ (n:=2) oM h;have e1:(2:Int) ^ d=((2 ^ d:Nat):Int):=by simp
 have e2:(2:Int) ^ e=((2 ^ e:Nat):Int):=by simp
 rw[e1,e2];exact Int.ofNat_le.2 this
theorem BJ{b:List Int}{s:eM}(h:gI s){d:Nat}(hd:d≤4)(sort p:Int):p≤(jE b s d sort p).2∧(jE b s d sort p).2≤p+15:=by have h1:=Gs (b:=b) h d sort p;have h2:=DV hd;omega
theorem OM{b:List Int}(hb:uq b){s:eM}(h:gI s){a:cR}{p:Int}(hp:0≤p):p≤(nL b s a p).2∧(nL b s a p).2≤p+17:=by obtain⟨d,e,h1,h2⟩:=w7 hb hp (l:=[1,1,2]) (by simp) (by decide);have:=BJ (b:=b) h h2 1 (p+1);simp only[nL,e,bc];omega
theorem Ei{b:List Int}(hb:uq b){s:eM}(h:gI s){m:Nat}{a:cR}{p:Int}(hp:0≤p)(ha:wy m a):wy (m+1) (nL b s a p).1:=by obtain⟨d,e,h1,h2⟩:=w7 hb hp (l:=[1,1,2]) (by simp) (by decide);simp only[nL,e,bc];exact XL ha (OZ h2 (Dd hb h d 1 (p+1) oM h1)) _
theorem acF{b:List Int}(hb:uq b){s:eM}(h:gI s):∀(n m:Nat)(a:cR)(p:Int),0≤p→wy m a→p≤(kY (nL b s) n a p).2∧(kY (nL b s) n a p).2≤p+n*17∧wy (m+n) (kY (nL b s) n a p).1
 | 0,m,a,p,hp,ha=>by simpa[kY] using ha
 | n+1,m,a,p,hp,ha=>by
   have h1:=OM hb h (a:=a) hp
   have h2:=acF hb h n (m+1) (nL b s a p).1 (nL b s a p).2 oM (Ei hb h hp ha)
   simp only[kY]
   refine⟨oM,oM,?_⟩
   have:=h2.2.2
   rwa [show m+1+n=m+(n+1) by omega] at this
theorem Qu{b:List Int}(hb:uq b){s:eM}(h:gI s){p:Int}(hp:0≤p):p≤(qh b s p).2∧(qh b s p).2≤p+60∧wy 3 (qh b s p).1:=by
 unfold qh;split;obtain⟨d,e,h1,h2⟩:=w7 hb (p:=p+2) oM (l:=[1,2]) (by simp) (by decide);have k1:=BJ (b:=b) h h2 (cF b (p+1) 2) (p+3);simp only[e,bc];generalize jE b s d (cF b (p+1) 2) (p+3)=x at k1⊢;obtain⟨d2,e2,h3,h4⟩:=w7 hb (p:=x.2) oM (l:=[1,1,2]) (by simp) (by decide);have k2:=BJ (b:=b) h h4 (cF b (p+1) 2) (x.2+1);simp only[e2,bc];exact⟨oM,oM,⟨rfl,by simp,by simp⟩⟩;have hm:=ri hb (p:=p+3) (l:=[1,2,2,3]) oM (by simp);have hk:(jL b (p+3) [1,2,2,3]).toNat≤3:=by simp only[az,bf,or_false] at hm;omega
 have:=acF hb h (jL b (p+3) [1,2,2,3]).toNat 0 ⟨2,aQ,aQ,[],[],jL b (p+1) [0,1,-1,2,3,-4],decide (cF b (p+2) 3=0)⟩ (p+4) oM ⟨rfl,by simp,by simp⟩;refine⟨oM,oM,this.2.2.len,?_,this.2.2.sh⟩;have:=this.2.2.few;omega
def EC(b:List Int)(s:eM)(p:Int):cR×Int:=
 let r:=qh b s p
 let a:=r.1
 let c:=cF b r.2 80
 if c=0 then(⟨jL b (r.2+1) [0,3,1,2],a.A,a.B,a.ai,a.a8,a.bj,a.bJ⟩,r.2+2) else
 if c=1 then(⟨a.kind,a.A,a.B,a.ai,a.a8,jL b (r.2+1) [1001,-9223372036854775808,5],a.bJ⟩,r.2+2) else
 if c=2 then(⟨a.kind,(E3 b s (r.2+1)).1,a.B,a.ai,a.a8,a.bj,a.bJ⟩,(E3 b s (r.2+1)).2) else
 if c=3 then(if 0<a.a8.length then(⟨a.kind,a.A,a.B,a.ai,a.a8.set 0 (jL b (r.2+1) [0,51,-9223372036854775808]),a.bj,a.bJ⟩,r.2+2) else(a,r.2+1)) else
 if c=4 then(⟨a.kind,a.A,a.B,a.ai++[(jE b s 1 1 (r.2+1)).1],a.a8,a.bj,a.bJ⟩,(jE b s 1 1 (r.2+1)).2) else(a,r.2+1)
theorem acW{b:List Int}(hb:uq b){s:eM}(h:gI s){p:Int}(hp:0≤p):p≤(EC b s p).2∧(EC b s p).2≤p+100:=by
 have h1:=Qu hb h hp;have h2:=adf hb h (p:=(qh b s p).2+1) oM;have h3:=BJ (b:=b) h (d:=1) oM 1 ((qh b s p).2+1);unfold EC;simp only;repeat' split
 all_goals(simp only;omega)
def kf(b:List Int)(atoms:List cR):Nat→Int→bU×Int
 | 0,p=>(KB,p)
 | d+1,p=>
   if d=0 then(.mk 1 ⟨atoms.getD (cF b p atoms.length).toNat rF,decide (cF b (p+1) 3=0)⟩ [],p+2) else
   if cF b p 4=0 then(.mk 1 ⟨atoms.getD (cF b (p+1) atoms.length).toNat rF,decide (cF b (p+2) 3=0)⟩ [],p+3) else
   let k:=jL b (p+1) [3,4,4,5,3,6,2]
   let r:=gM (fun(_:Unit) q=>kf b atoms d q) (aE (gw k).toNat ()) (p+2)
   (.mk k Gq r.1,r.2)
mutual
def nodes:bU→Nat
 | .mk _ _ ks=>1+eY ks
def eY:List bU→Nat
 | []=>0
 | t::ts=>nodes t+eY ts
end
theorem r6:∀(a c:List bU),eY (a++c)=eY a+eY c
 | [],c=>by simp[eY]
 | t::a,c=>by simp only[bI,eY,r6 a c];omega
theorem Wl{k:Int}(h:k=3∨k=4∨k=5∨k=6∨k=2):1≤gw k∧gw k≤2:=by rcases h with rfl|rfl|rfl|rfl|rfl<;>decide
theorem OH{b:List Int}(hb:uq b){p:Int}(hp:0≤p):1≤gw (jL b p [3,4,4,5,3,6,2])∧gw (jL b p [3,4,4,5,3,6,2])≤2:=by have hm:=ri hb (p:=p) (l:=[3,4,4,5,3,6,2]) hp (by simp);simp only[az,bf,or_false] at hm;exact Wl oM
theorem GO{b:List Int}(hb:uq b){atoms:List cR}:∀(d:Nat)(p:Int),0≤p→p≤(kf b atoms d p).2∧(kf b atoms d p).2≤p+4*(2 ^ d-1)∧(1≤d→nodes (kf b atoms d p).1+1≤2 ^ d)
 | 0,p,_=>by simp[kf]
 | d+1,p,hp=>by
  have ih:=GO (atoms:=atoms) hb d;obtain⟨hq,hq2⟩:=two_pow_pos d;have hN:(2:Nat) ^ (d+1)=2*2 ^ d:=(by rw[Nat.pow_succ];omega);have hN1:=eH (n:=d);simp only[kf];split;simp only[nodes,eY];omega;rename_i hd0;have Kp:1≤d:=oM;have hd2:2≤2 ^ d:=(by have:=dJ (n:=2) oM Kp;omega);split;simp only[nodes,eY];omega;have hk:=OH hb (p:=p+1) oM;generalize jL b (p+1) [3,4,4,5,3,6,2]=k at hk⊢;have key:∀(n:Nat)(q:Int),0≤q→q≤(gM (fun(_:Unit) q=>kf b atoms d q) (aE n ()) q).2∧(gM (fun(_:Unit) q=>kf b atoms d q) (aE n ()) q).2≤q+n*(4*(2 ^ d-1))∧eY (gM (fun(_:Unit) q=>kf b atoms d q) (aE n ()) q).1+n≤n*2 ^ d:=by
   intro n;induction n with
   | zero=>intro q hq;simp[gM,eY]
   | succ n ihn=>intro q hq;obtain⟨a1,a2,a3⟩:=ih q hq;have a3:=a3 Kp;obtain⟨b1,b2,b3⟩:=ihn (kf b atoms d q).2 oM;simp only[gF,gM,eY];have e1:((n+1:Nat):Int)*(4*(2 ^ d-1))=n*(4*(2 ^ d-1))+4*(2 ^ d-1):=(by rw[Int.natCast_add,Int.add_mul];simp);have e2:(n+1)*2 ^ d=n*2 ^ d+2 ^ d:=(by rw[Nat.add_mul];omega);omega
  obtain⟨c1,c2,c3⟩:=key (gw k).toNat (p+2) oM;have e1:((gw k).toNat:Int)*(4*(2 ^ d-1))≤2*(4*(2 ^ d-1)):=jZ oM oM;have e2:(gw k).toNat*2 ^ d≤2*2 ^ d:=Nat.mul_le_mul_right _ oM;simp only[nodes];have e3:(gw k).toNat=1∨(gw k).toNat=2:=oM;refine⟨oM,oM,fun _=>?_⟩;rcases e3 with e3|e3<;>(rw[e3] at c3⊢;omega)
def nc(b:List Int)(s:eM)(out:List cR)(p:Int):List cR×Int:=
 (if gn s (plain (out++[(qh b s p).1])) then(if jG out (qh b s p).1<0 then out++[(qh b s p).1] else out) else out,(qh b s p).2)
def afp:cR:=⟨1,.mk [97] [],.mk [97] [],[],[],0,false⟩
def nT(b:List Int)(s:eM)(p:Int):List cR×Int:=
 let r:=kY (nc b s) (jL b p [2,3,4,5,1]).toNat [] (p+1)
 (if r.1.length=0 then r.1++[afp] else r.1,r.2)
theorem Xf{b:List Int}(hb:uq b){s:eM}(h:gI s):∀(n:Nat)(l:List cR)(p:Int),0≤p→p≤(kY (nc b s) n l p).2∧(kY (nc b s) n l p).2≤p+n*60∧(kY (nc b s) n l p).1.length≤l.length+n
 | 0,l,p,_=>by simp[kY]
 | n+1,l,p,hp=>by
  have h1:=Qu hb h hp;have h2:=Xf hb h n (nc b s l p).1 (nc b s l p).2 (by simp only[nc];omega);have h3:(nc b s l p).1.length≤l.length+1:=by
   simp only[nc];repeat' split
   all_goals simp
  simp only[kY];have e:(nc b s l p).2=(qh b s p).2:=rfl;rw[e] at h2⊢;omega
theorem JI{b:List Int}(hb:uq b){s:eM}(h:gI s){p:Int}(hp:0≤p):p≤(nT b s p).2∧(nT b s p).2≤p+400∧1≤(nT b s p).1.length∧(nT b s p).1.length≤10:=by
 have hm:=ri hb (p:=p) (l:=[2,3,4,5,1]) hp (by simp);have hk:(jL b p [2,3,4,5,1]).toNat≤5:=by simp only[az,bf,or_false] at hm;omega
 have h1:=Xf hb h (jL b p [2,3,4,5,1]).toNat [] (p+1) oM;simp only[nT];simp only[c8] at h1;split;rename_i h0;simp only[aP,fh];omega;omega
def nz(b:List Int)(p:Int):eM×bU×Int:=
 let s:=(qG b p).1
 let a:=nT b s (p+1)
 let r:=kf b a.1 (jL b a.2 [3,4,2,3,1]).toNat (a.2+1)
 (s,r.1,r.2)
theorem W8{b:List Int}(hb:uq b){p:Int}(hp:0≤p):p≤(nz b p).2.2∧(nz b p).2.2≤p+500∧nodes (nz b p).2.1≤20∧gI (nz b p).1:=by have h1:=JI hb (s:=(qG b p).1) (vC _) (p:=p+1) oM;obtain⟨d,e,h2,h3⟩:=w7 hb (p:=(nT b (qG b p).1 (p+1)).2) oM (l:=[3,4,2,3,1]) (by simp) (by decide);have h4:=GO hb (atoms:=(nT b (qG b p).1 (p+1)).1) d ((nT b (qG b p).1 (p+1)).2+1) oM;have h5:=DV h3;have h6:=dJ (n:=2) oM h3;simp only[nz,e,bc];obtain⟨k1,k2,k3⟩:=h4;have k3:=k3 h2;exact⟨oM,oM,oM,vC _⟩
def AH(b:List Int)(p:Int):eM×bU×Int:=
 let r:=nz b p
 let f:=r.2.1
 let q:=r.2.2
 let c:=cF b q 64
 if c=0 then(r.1,.mk (jL b (q+1) [0,7,1,2,3]) f.lit f.ar,q+2) else
 if c=1 then(r.1,.mk f.kind f.lit (f.ar++[f]),q+1) else
 if c=2 then(r.1,.mk f.kind ⟨(EC b r.1 (q+1)).1,false⟩ f.ar,(EC b r.1 (q+1)).2) else
 if c=3 then((kW b (kW b r.1 (q+1)).1 (kW b r.1 (q+1)).2).1,f,(kW b (kW b r.1 (q+1)).1 (kW b r.1 (q+1)).2).2) else(r.1,f,q+1)
theorem acv(k:Int)(l:bL)(f:bU):nodes (.mk k l f.ar)=nodes f:=by cases f;rfl
theorem ado{b:List Int}(hb:uq b){p:Int}(hp:0≤p):p≤(AH b p).2.2∧(AH b p).2.2≤p+700∧nodes (AH b p).2.1≤41:=by
 obtain⟨h1,h2,h3,h4⟩:=W8 hb hp;have h5:=acW hb h4 (p:=(nz b p).2.2+1) oM;have h6:=BG b (nz b p).1 ((nz b p).2.2+1);have h7:=BG b (kW b (nz b p).1 ((nz b p).2.2+1)).1 (kW b (nz b p).1 ((nz b p).2.2+1)).2;have h8:nodes (.mk (nz b p).2.1.kind (nz b p).2.1.lit ((nz b p).2.1.ar++[(nz b p).2.1]))=nodes (nz b p).2.1+nodes (nz b p).2.1:=by
  cases(nz b p).2.1 with
  | mk k l ks=>simp only[bU.ar,nodes,r6,eY];omega
 unfold AH;simp only;repeat' split
 all_goals(simp only[acv,h8];omega)
def zM(b:List Int)(n:Nat)(p:Int):List Bool×Int:=
 let r:=gM (fun(_:Unit) q=>(decide (cF b q 2=0),q+1)) (aE n ()) p
 (if cF b r.2 30=0 then r.1++[true] else r.1,r.2+1)
theorem adY(b:List Int)(n:Nat)(p:Int):(zM b n p).2=p+n+1∧(zM b n p).1.length≤n+1:=by
 have key:∀(n:Nat)(p:Int),(gM (fun(_:Unit) q=>(decide (cF b q 2=0),q+1)) (aE n ()) p).2=p+n∧(gM (fun(_:Unit) q=>(decide (cF b q 2=0),q+1)) (aE n ()) p).1.length=n:=by
  intro n;induction n with
  | zero=>intro p;simp[gM]
  | succ n ih=>intro p;obtain⟨h1,h2⟩:=ih (p+1);simp only[gF,gM,aY];exact⟨by rw[h1];omega,by rw[h2]⟩
 obtain⟨h1,h2⟩:=key n p;simp only[zM];refine⟨by rw[h1],?_⟩;split;rw[aP,h2];exact aK _;rw[h2];omega
def kF(b:List Int)(lf:List cR)(out:List bU)(p:Int):List bU×Int:=
 let r:=kf b lf (jL b p [2,3,1]).toNat (p+1)
 (out++[r.1],r.2)
def x9(b:List Int)(lf:List cR):Nat→List bU→Int→List bU×Int
 | 0,l,p=>(l,p)
 | n+1,l,p=>x9 b lf n (l++[(kf b lf 1 p).1]) (kf b lf 1 p).2
def pz(b:List Int)(p:Int):eM×List bU×Int:=
 let s:=(qG b p).1
 let a:=nT b s (p+1)
 let r:=kY (kF b a.1) (jL b a.2 [2,3,1,4,0]).toNat [] (a.2+1)
 let c:=cF b r.2 48
 if c=0 then(s,r.1++[(AH b (r.2+1)).2.1],(AH b (r.2+1)).2.2) else
 if c=1 then(s,(x9 b a.1 (6-r.1.length) r.1 (r.2+1)).1,(x9 b a.1 (6-r.1.length) r.1 (r.2+1)).2) else
 if c=2 then((kW b (kW b s (r.2+1)).1 (kW b s (r.2+1)).2).1,r.1,(kW b (kW b s (r.2+1)).1 (kW b s (r.2+1)).2).2) else(s,r.1,r.2+1)
theorem KL{b:List Int}(hb:uq b){lf:List cR}{out:List bU}{p:Int}(hp:0≤p):p≤(kF b lf out p).2∧(kF b lf out p).2≤p+70∧eY (kF b lf out p).1≤eY out+16∧(kF b lf out p).1.length=out.length+1:=by obtain⟨d,e,h2,h3⟩:=w7 hb (p:=p) oM (l:=[2,3,1]) (by simp) (by decide);obtain⟨h4,h5,h6⟩:=GO hb (atoms:=lf) d (p+1) oM;have h7:=DV h3;have h8:=dJ (n:=2) oM h3;have h6:=h6 h2;simp only[kF,e,bc,r6,eY,aP,fh];refine⟨oM,oM,oM,?_⟩;trivial
theorem QD{b:List Int}(hb:uq b){lf:List cR}:∀(n:Nat)(l:List bU)(p:Int),0≤p→p≤(kY (kF b lf) n l p).2∧(kY (kF b lf) n l p).2≤p+n*70∧eY (kY (kF b lf) n l p).1≤eY l+n*16∧(kY (kF b lf) n l p).1.length=l.length+n
 | 0,l,p,_=>by simp[kY]
 | n+1,l,p,hp=>by have h1:=KL hb (lf:=lf) (out:=l) hp;have h2:=QD hb (lf:=lf) n (kF b lf l p).1 (kF b lf l p).2 oM;simp only[kY];omega
theorem WZ{b:List Int}(hb:uq b){lf:List cR}:∀(n:Nat)(l:List bU)(p:Int),0≤p→p≤(x9 b lf n l p).2∧(x9 b lf n l p).2≤p+n*4∧eY (x9 b lf n l p).1≤eY l+n∧(x9 b lf n l p).1.length=l.length+n
 | 0,l,p,_=>by simp[x9]
 | n+1,l,p,hp=>by obtain⟨h4,h5,h6⟩:=GO hb (atoms:=lf) 1 p hp;have h6:=h6 (aK 1);have h2:=WZ hb (lf:=lf) n (l++[(kf b lf 1 p).1]) (kf b lf 1 p).2 oM;simp only[r6,eY,aP,fh] at h2;simp only[x9];omega
theorem WS{b:List Int}(hb:uq b){p:Int}(hp:0≤p):p≤(pz b p).2.2∧(pz b p).2.2≤p+2000∧eY (pz b p).2.1≤200∧(pz b p).2.1.length≤10:=by
 have h1:=JI hb (s:=(qG b p).1) (vC _) (p:=p+1) oM;have hm:=ri hb (p:=(nT b (qG b p).1 (p+1)).2) (l:=[2,3,1,4,0]) oM (by simp);have hk:(jL b (nT b (qG b p).1 (p+1)).2 [2,3,1,4,0]).toNat≤4:=by simp only[az,bf,or_false] at hm;omega
 have h2:=QD hb (lf:=(nT b (qG b p).1 (p+1)).1) (jL b (nT b (qG b p).1 (p+1)).2 [2,3,1,4,0]).toNat [] ((nT b (qG b p).1 (p+1)).2+1) oM;simp only[eY,c8] at h2;simp only[pz];generalize kY (kF b (nT b (qG b p).1 (p+1)).1) (jL b (nT b (qG b p).1 (p+1)).2 [2,3,1,4,0]).toNat [] ((nT b (qG b p).1 (p+1)).2+1)=r at h2⊢;have h3:=ado hb (p:=r.2+1) oM;have h4:=WZ hb (lf:=(nT b (qG b p).1 (p+1)).1) (6-r.1.length) r.1 (r.2+1) oM;have h6:=BG b (qG b p).1 (r.2+1);have h7:=BG b (kW b (qG b p).1 (r.2+1)).1 (kW b (qG b p).1 (r.2+1)).2;repeat' split
 all_goals(simp only[r6,eY,aP,fh];omega)
def aeJ(b:List Int):List bU×List Bool:=((pz b 0).2.1,(zM b (ba [] (pz b 0).2.1).length (pz b 0).2.2).1)
end Go.Mod
