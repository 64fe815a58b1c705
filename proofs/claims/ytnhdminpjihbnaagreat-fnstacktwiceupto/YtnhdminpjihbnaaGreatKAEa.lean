/-
  What the functions of chapters 10 to 13 compute, in plain Lean: clauses, unit propagation, logs, clause form, papers. No program is walked here.
-/
import Derived.Test.YtnhdminpjihbnaaGreatKAE
import Derived.Lib.SlicesCompact
set_option linter.unusedVariables false
set_option linter.unusedSimpArgs false
open Bool renaming and_eq_true→ab,false_eq_true→aw,false_or→mV
open Classical renaming em→aa
open Int renaming natAbs_eq_natAbs_iff→mX
open List renaming getElem?_eq_getElem→ae,getElem_mem→ah,drop_eq_getElem_cons→ai,take_of_length_le→ak,drop_of_length_le→al,mem_cons→ax,length_append→ay,length_cons→aG,mem_append→aM,length_take→a6,mem_cons_of_mem→bf,all_eq_true→bh,take_add_one→bn,mem_map→bq,getElem?_append_left→br,cons_append→bu,mem_singleton→bx,nil_append→bQ,length_map→cd,contains_iff_mem→cJ,pairwise_cons→cS,mem_filter→cX,length_eq_zero_iff→dI,getElem?_drop→eY,take_append_drop→fq,filter_cons→fB,length_eq_one_iff→fE,foldl_cons→iW,filter_append→jd,set_append_right→j5,drop_drop→l7,pairwise_append→mJ,pairwise_map→oH
open Nat renaming le_refl→aH,zero_le→bT,lt_or_ge→b7,lt_trichotomy→fg
open Option renaming map_some→dV
namespace Go.Mod
open Go.Eng
def lY(aP:Int):Option Int→List Int→Bool
 | _,[]=>true
 | p,l::ls=>iq l aP&&((match p with|none=>true|some q=>decide (q.natAbs<l.natAbs))&&lY aP (some l) ls)
def mz(c:List Int)(aP:Int):Bool:=c8 aP 0 60&&lY aP none c
def qP(c:gI):Bool:=c8 c.aP 0 60&&(decide (c.au.length≤400)&&c.au.all fun x=>mz x c.aP)
def DK:List Int→Int→Option (List Int)
 | [],n=>some [n]
 | x::xs,n=>if x.natAbs<n.natAbs then(DK xs n).map (x :: ·) else if x.natAbs=n.natAbs then(if x=n then some (x::xs) else none) else some (n::x::xs)
def tV:List Int→List Int→Option (List Int)
 | out,[]=>some out
 | out,n::ns=>match DK out n with
   | none=>none
   | some o=>tV o ns
def hQ(au:List Int):Option (List Int):=if au.all fun l=>iq l 60 then tV [] au else none
def unit(put c:List Int):Int×Bool:=
 if c.any put.contains then(0,false) else match c.filter (fun l=>!put.contains (-l)) with
  | []=>(0,true)
  | [l]=>(l,false)
  | _=>(0,false)
def scan(put:List Int):List (List Int)→Int×Bool
 | []=>(0,false)
 | c::cs=>if(unit put c).2 then(0,true) else if(unit put c).1=0 then scan put cs else((unit put c).1,false)
def rC(au:List (List Int)):Nat→List Int→List Int×Bool
 | 0,put=>(put,false)
 | n+1,put=>if(scan put au).2 then(put,true) else if(scan put au).1=0 then(put,false) else rC au n (put++[(scan put au).1])
def fQ(au:List (List Int))(put:List Int):List Int×Bool:=rC au (61-put.length) put
def ah9(c:gI)(clause:List Int):Bool:=qP c&&(mz clause c.aP&&(fQ c.au (clause.map fun l=>-l)).2)
def agT(aP:Int):List (List Int)→List (List Int)→Bool
 | _,[]=>true
 | au,x::xs=>ah9 ⟨aP,au⟩ x&&agT aP (au++[x]) xs
def ajx(c:gI)(log:List (List Int)):Bool:=qP c&&(decide (log.length≤130)&&(decide (c.au.length+log.length≤400)&&agT c.aP c.au log))
def ae5(log:List (List Int)):Bool:=match log.getLast? with|some []=>true|_=>false
def fF(c:gI)(au:List Int):gI:=match hQ au with|none=>c|some x=>⟨c.aP,c.au++[x]⟩
def XI(c:gI)(v a b:Int):gI:=fF (fF (fF c [v,-a]) [v,-b]) [-v,a,b]
def M6(c:gI)(v a b:Int):gI:=fF (fF (fF (fF c [-v,-a,b]) [-v,a,-b]) [v,a,b]) [v,-a,-b]
def pM(k:Int)(c:gI)(v a b:Int):gI:=if k=3 then XI c (-v) (-a) (-b) else if k=4 then XI c v a b else if k=5 then XI c v (-a) b else M6 c v a b
mutual
def cF(atoms:List bz):aU→gI→gI×Int
 | .mk k l ks,c=>
   if k=1 then(c,if l.no then -(dk atoms l.aY+1) else dk atoms l.aY+1) else
   if k=2 then((jc atoms ks c).1,-((jc atoms ks c).2.getD 0 0)) else
   (pM k ⟨(jc atoms ks c).1.aP+1,(jc atoms ks c).1.au⟩ ((jc atoms ks c).1.aP+1) ((jc atoms ks c).2.getD 0 0) ((jc atoms ks c).2.getD 1 0),(jc atoms ks c).1.aP+1)
def jc(atoms:List bz):List aU→gI→gI×List Int
 | [],c=>(c,[])
 | t::ts,c=>((jc atoms ts (cF atoms t c).1).1,(cF atoms t c).2::(jc atoms ts (cF atoms t c).1).2)
end
def rU(atoms:List bz):List aU→gI→gI
 | [],c=>c
 | f::fs,c=>rU atoms fs (fF (cF atoms f c).1 [(cF atoms f c).2])
def ZD:gI:=⟨0,[]⟩
def gU(au:List aU):gI:=match cR au with|none=>ZD|some atoms=>rU atoms au ⟨atoms.length,[]⟩
def gx(c:gI):List mh→gI
 | []=>c
 | l::ls=>gx (fF c (l.marks.map fun m=>-m)) ls
def yr(au:List aU)(p:F8):gI:=match cR au with
 | none=>ZD
 | some atoms=>if decide (p.ke.length≤64)&&p.ke.all (fun l=>iz l.marks atoms.length) then gx (gU au) p.ke else ZD
def age(s:eV)(au:List aU)(p:F8):Bool:=
 gl s au&&(decide (p.ke.length≤64)&&(p.ke.all (af7 s au)&&(ajx (yr au p) p.log&&ae5 p.log)))
def ah0(f:aU):aU:=.mk 2 Hc [f]
def ajj(s:eV)(au:List aU)(f:aU)(p:F8):Bool:=age s (au++[ah0 f]) p
def YB(l:List Int):Prop:=l.Pairwise fun a b=>a.natAbs<b.natAbs
theorem X7:∀{a b:List Int},YB a→YB b→(∀x,x∈a↔x∈b)→a=b
 | [],[],_,_,_=>rfl
 | [],y::ys,_,_,h=>by have:=(h y).2 (by simp);simp at this
 | x::xs,[],_,_,h=>by have:=(h x).1 (by simp);simp at this
 | x::xs,y::ys,ha,hb,h=>by
  obtain⟨a1,a2⟩:=cS.1 ha;obtain⟨b1,b2⟩:=cS.1 hb;have e:x=y:=by rcases ax.1 ((h x).1 (by simp)) with e|e;exact e;rcases ax.1 ((h y).2 (by simp)) with e2|e2;exact e2.symm;have:=b1 x e;have:=a1 y e2;omega
  subst e;congr 1;refine X7 a2 b2 fun z=>?_;constructor;intro hz;rcases ax.1 ((h z).1 (bf _ hz)) with e|e;rw[e] at hz;have:=a1 x hz;omega;exact e;intro hz;rcases ax.1 ((h z).2 (bf _ hz)) with e|e;rw[e] at hz;have:=b1 x hz;omega;exact e
theorem PU:∀{l:List Int}{n:Int},YB l→n≠0 → -n∈l→DK l n=none
 | [],_,_,_,h=>by simp at h
 | x::xs,n,hi,hn,h=>by obtain⟨a1,a2⟩:=cS.1 hi;rcases ax.1 h with e|e;have h1:¬x.natAbs<n.natAbs:=oM;have h2:x.natAbs=n.natAbs:=oM;have h3:¬x=n:=oM;rw[DK,if_neg h1,if_pos h2,if_neg h3];have:=a1 _ e;have h1:x.natAbs<n.natAbs:=oM;simp only[DK,h1,if_true,PU a2 hn e,Option.map_none]
theorem HY:∀{l:List Int}{n:Int},YB l → -n∉l→∃o,DK l n=some o∧YB o∧∀x,x∈o↔x=n∨x∈l
 | [],n,_,_=>⟨[n],rfl,List.pairwise_singleton _ _,by simp⟩
 | x::xs,n,hi,hn=>by
  obtain⟨a1,a2⟩:=cS.1 hi;rcases fg x.natAbs n.natAbs with h1|h1|h1;obtain⟨o,e,i1,i2⟩:=HY (n:=n) a2 (fun hh=>hn (bf _ hh));refine⟨x::o,by simp only[DK,h1,if_true,e,dV],cS.2 ⟨fun y hy=>?_,i1⟩,fun z=>?_⟩;rcases(i2 y).1 hy with e|e;rw[e];exact h1;exact a1 y e;rw[ax,i2,ax];constructor;rintro(h|h|h);exact .inr (.inl h);exact .inl h;exact .inr (.inr h);rintro(h|h|h);exact .inr (.inl h);exact .inl h;exact .inr (.inr h);have hx:x=n:=by rcases mX.1 h1 with e|e;exact e;exact absurd (by simp[e]) hn
  have h2:¬x.natAbs<n.natAbs:=oM;refine⟨x::xs,by rw[DK,if_neg h2,if_pos h1,if_pos hx],hi,fun z=>?_⟩;rw[hx,ax];constructor;intro h;exact .inr h;rintro(h|h);exact .inl h;exact h;have h2:¬x.natAbs<n.natAbs:=oM;have h3:¬x.natAbs=n.natAbs:=oM;refine⟨n::x::xs,by simp only[DK,h2,h3,if_false],cS.2 ⟨fun y hy=>?_,hi⟩,fun z=>by rw[ax]⟩;rcases ax.1 hy with e|e;rw[e];exact h1;have:=a1 y e;omega
def Fair(l:List Int):Prop:=∀x∈l,-x∉l
theorem H6:∀{ns out:List Int},YB out→(∀x∈ns,-x∉ns ∧ -x∉out)→∃o,tV out ns=some o∧YB o∧∀x,x∈o↔x∈ns∨x∈out
 | [],out,hi,_=>⟨out,rfl,hi,by simp⟩
 | n::ns,out,hi,h=>by
  obtain⟨h1,h2⟩:=h n (by simp);obtain⟨o,e,i1,i2⟩:=HY (n:=n) hi h2;obtain⟨o2,e2,j1,j2⟩:=H6 (ns:=ns) i1 (fun x hx=>by
   obtain⟨q1,q2⟩:=h x (bf _ hx)
   refine⟨fun hh=>q1 (bf _ hh),fun hh=>?_⟩
   rcases(i2 (-x)).1 hh with e|e
   ·exact q1 (by rw[e];simp)
   ·exact q2 e)
  refine⟨o2,by simp only[tV,e,e2],j1,fun z=>?_⟩;rw[j2,i2,ax];constructor;rintro(h|h|h);exact .inl (.inr h);exact .inl (.inl h);exact .inr h;rintro((h|h)|h);exact .inr (.inl h);exact .inl h;exact .inr (.inr h)
theorem IH:∀{ns out:List Int},YB out→(∀x∈ns,x≠0)→(∃x∈ns,-x∈ns ∨ -x∈out)→tV out ns=none
 | [],_,_,_,⟨x,hx,_⟩=>by simp at hx
 | n::ns,out,hi,h0,h=>by rcases aa (-n∈out) with hn|hn;simp only[tV,PU hi (h0 n (by simp)) hn];obtain⟨o,e,i1,i2⟩:=HY (n:=n) hi hn;simp only[tV,e];refine IH i1 (fun x hx=>h0 x (bf _ hx)) ?_;have hn0:=h0 n (by simp);obtain⟨x,hx,hh⟩:=h;rcases ax.1 hx with ex|ex;rw[ex] at hh;rcases hh with hh|hh;rcases ax.1 hh with e2|e2;omega;exact⟨-n,e2,.inr ((i2 _).2 (.inl oM))⟩;exact absurd hh hn;rcases hh with hh|hh;rcases ax.1 hh with e2|e2;exact⟨x,ex,.inr ((i2 _).2 (.inl e2))⟩;exact⟨x,ex,.inl e2⟩;exact⟨x,ex,.inr ((i2 _).2 (.inr hh))⟩
def ins(l:List Int)(n:Int):List Int:=(l.filter fun x=>decide (x.natAbs≤n.natAbs))++n::l.filter fun x=>decide (n.natAbs<x.natAbs)
def ik(l:List Int):List Int:=l.foldl ins []
def Srt(l:List Int):Prop:=l.Pairwise fun a b=>a.natAbs≤b.natAbs
theorem afx{l:List Int}{n:Int}(h:Srt l):Srt (ins l n):=by unfold ins Srt;refine mJ.2 ⟨h.filter _,cS.2 ⟨fun y hy=>?_,h.filter _⟩,fun a ha b hb=>?_⟩;have:=(cX.1 hy).2;simp only[decide_eq_true_eq] at this;omega;have h1:=(cX.1 ha).2;simp only[decide_eq_true_eq] at h1;rcases ax.1 hb with e|e;rw[e];exact h1;have h2:=(cX.1 e).2;simp only[decide_eq_true_eq] at h2;omega
theorem afA{l:List Int}{n x:Int}:x∈ins l n↔x=n∨x∈l:=by unfold ins;rw[aM,ax,cX,cX];simp only[decide_eq_true_eq];constructor;rintro(h|h|h);exact .inr h.1;exact .inl h;exact .inr h.1;rintro(h|h);exact .inr (.inl h);rcases b7 n.natAbs x.natAbs with q|q;exact .inr (.inr ⟨h,q⟩);exact .inl ⟨h,q⟩
theorem LL:∀{l aW:List Int},Srt aW→Srt (l.foldl ins aW)∧∀x,x∈l.foldl ins aW↔x∈l∨x∈aW
 | [],aW,h=>⟨h,by simp⟩
 | n::l,aW,h=>by obtain⟨h1,h2⟩:=LL (l:=l) (afx (n:=n) h);refine⟨h1,fun x=>?_⟩;rw[iW,h2,afA,ax];constructor;rintro(h|h|h);exact .inl (.inr h);exact .inl (.inl h);exact .inr h;rintro((h|h)|h);exact .inr (.inl h);exact .inl h;exact .inr (.inr h)
theorem CA(l:List Int):Srt (ik l):=(LL (l:=l) (aW:=[]) List.Pairwise.nil).1
theorem vk(l:List Int)(x:Int):x∈ik l↔x∈l:=by have:=(LL (l:=l) (aW:=[]) List.Pairwise.nil).2 x;rw[ik,this];simp
def compact:List Int→List Int
 | []=>[]
 | [x]=>[x]
 | x::y::l=>if x=y then compact (y::l) else x::compact (y::l)
theorem xe:∀(l:List Int)(x:Int),x∈compact l↔x∈l
 | [],_=>by simp[compact]
 | [a],_=>by simp[compact]
 | a::b::l,x=>by have ih:=xe (b::l) x;unfold compact;split;rename_i e;rw[ih,e];simp;rw[ax,ih,ax (a:=x) (b:=a)]
theorem AY:∀{l:List Int},Srt l→(∀x∈l,∀y∈l,x.natAbs=y.natAbs→x=y)→YB (compact l)
 | [],_,_=>List.Pairwise.nil
 | [a],_,_=>List.pairwise_singleton _ _
 | a::b::l,hs,hu=>by
  obtain⟨h1,h2⟩:=cS.1 hs;have ih:=AY (l:=b::l) h2 (fun x hx y hy=>hu x (bf _ hx) y (bf _ hy));unfold compact;split;exact ih;rename_i e;refine cS.2 ⟨fun y hy=>?_,ih⟩;rw[xe] at hy;have hle:=h1 y hy;rcases b7 a.natAbs y.natAbs with q|q;exact q;have e1:=hu a (by simp) y (bf _ hy) oM;have hb:=h1 b (by simp);have hyb:b.natAbs≤y.natAbs:=by rcases ax.1 hy with e2|e2;rw[e2];exact aH _;exact(cS.1 h2).1 y e2
  have:=hu a (by simp) b (by simp) oM;exact absurd this e
theorem Oq{l:List Int}(h0:∀x∈l,x≠0)(hf:Fair l):tV [] l=some (compact (ik l)):=by obtain⟨o,e,i1,i2⟩:=H6 (ns:=l) (out:=[]) List.Pairwise.nil (fun x hx=>⟨hf x hx,by simp⟩);rw[e];congr 1;refine X7 i1 (AY (CA l) fun x hx y hy hxy=>?_) fun x=>?_;rw[vk] at hx hy;rcases mX.1 hxy with e|e;exact e;exact absurd (by rw[e] at hx;exact hx) (hf y hy);rw[i2,xe,vk];simp
def oi(put:List Int):Prop:=put.Pairwise (fun a b=>a.natAbs≠b.natAbs)∧∀x∈put,x≠0∧x.natAbs≤60
theorem uR{put:List Int}(h:oi put):put.length≤60:=by
 have h1:=QJ 60 (put.map fun m=>m.natAbs-1) (by
  rw[oH];refine List.Pairwise.imp_of_mem ?_ h.1;intro a b ha hb hab e;have:=h.2 a ha;have:=h.2 b hb;exact hab oM) (fun x hx=>by
  obtain⟨m,hm,rfl⟩:=bq.1 hx;have:=h.2 m hm;omega)
 rwa [cd] at h1
theorem yd{put:List Int}{l:Int}(h:oi put)(h0:l≠0)(h1:l.natAbs≤60)(h2:l∉put)(h3:-l∉put):oi (put++[l]):=by refine⟨mJ.2 ⟨h.1,List.pairwise_singleton _ _,fun a ha b hb=>?_⟩,fun x hx=>?_⟩;rw[bx.1 hb];intro e;rcases mX.1 e with e|e;exact h2 (by rw[←e];exact ha);exact h3 (by rw[←e];exact ha);rcases aM.1 hx with hx|hx;exact h.2 x hx;rw[bx.1 hx];exact⟨h0,h1⟩
theorem adw{put:List Int}(h:oi put):Fair put:=by
 intro x hx hn;have h0:=h.2 x hx;have key:∀{l:List Int},l.Pairwise (fun a b=>a.natAbs≠b.natAbs)→x∈l → -x∈l→x≠0→False:=by
  intro l;induction l with
  | nil=>intro _ h _ _;simp at h
  | cons a l ih=>intro hp h1 h2 h3;obtain⟨p1,p2⟩:=cS.1 hp;rcases ax.1 h1 with e|e;rcases ax.1 h2 with e2|e2;omega;exact p1 _ e2 (by rw[←e];simp);rcases ax.1 h2 with e2|e2;exact p1 _ e (by rw[←e2];simp);exact ih p2 e e2 h3
 exact key h.1 hx hn h0.1
theorem ad1{put c:List Int}(h:(unit put c).1≠0):(unit put c).2=false∧(unit put c).1∈c∧(unit put c).1∉put ∧ -(unit put c).1∉put:=by
 unfold unit at h⊢;split at h;exact absurd rfl h;rename_i ha;rw[if_neg ha];split at h;exact absurd rfl h;rename_i l hl;have hm:l∈c.filter (fun l=>!put.contains (-l)):=by rw[hl];simp
 obtain⟨m1,m2⟩:=cX.1 hm;refine⟨rfl,m1,fun hh=>ha (List.any_eq_true.2 ⟨l,m1,cJ.2 hh⟩),fun hh=>?_⟩;simp at m2;exact m2 hh;exact absurd rfl h
theorem KB{put:List Int}:∀{au:List (List Int)},(scan put au).1≠0→∃c∈au,(scan put au).1∈c∧(scan put au).1∉put ∧ -(scan put au).1∉put
 | [],h=>absurd rfl h
 | c::cs,h=>by rcases aa ((unit put c).2=true) with h1|h1;simp only[scan,h1,if_true] at h;exact absurd rfl h;rcases aa ((unit put c).1=0) with h2|h2;simp only[scan,h1,h2,if_true,if_false] at h⊢;obtain⟨d,hd,hh⟩:=KB h;exact⟨d,bf _ hd,hh⟩;simp only[scan,h1,h2,if_false];obtain⟨_,q⟩:=ad1 h2;exact⟨c,by simp,q⟩
theorem DG{au:List (List Int)}{put:List Int}(h:put.length≤60):fQ au put=if(scan put au).2 then(put,true) else if(scan put au).1=0 then(put,false) else fQ au (put++[(scan put au).1]):=by
 have e:61-put.length=(61-(put++[(scan put au).1]).length)+1:=by simp;omega
 unfold fQ;rw[e,rC]
theorem He{put:List Int}{au:List (List Int)}{i:Nat}(h:i<au.length):scan put (au.drop i)=if(unit put au[i]).2 then(0,true) else if(unit put au[i]).1=0 then scan put (au.drop (i+1)) else((unit put au[i]).1,false):=by rw[ai h,scan]
theorem Nf{put:List Int}{au:List (List Int)}{i:Nat}(h:au.length≤i):scan put (au.drop i)=(0,false):=by rw[al h,scan]
def VM(put:List Int):List Int→Int→Int→Int×Int
 | [],n,left=>(n,left)
 | l::ls,n,left=>if at0 put l=1 then(2,0) else if at0 put l=0 then VM put ls (n+1) (if n=0 then l else left) else VM put ls n left
def left(put c:List Int):Int×Int:=VM put c 0 0
theorem Gi{aP:Int}:∀{c:List Int}{p:Option Int},lY aP p c=true→∀l∈c,iq l aP=true
 | [],_,_,l,hl=>by simp at hl
 | a::c,p,h,l,hl=>by simp only[lY,ab] at h;rcases ax.1 hl with e|e;rw[e];exact h.1;exact Gi h.2.2 l e
theorem Fa{aP:Int}:∀{c:List Int}{p:Option Int},lY aP p c=true→YB c∧∀q,p=some q→∀l∈c,q.natAbs<l.natAbs
 | [],p,_=>⟨List.Pairwise.nil,fun _ _ l hl=>by simp at hl⟩
 | a::c,p,h=>by simp only[lY,ab] at h;obtain⟨i1,i2⟩:=Fa h.2.2;refine⟨cS.2 ⟨i2 a rfl,i1⟩,fun q hq l hl=>?_⟩;have h1:=h.2.1;rw[hq] at h1;simp only[decide_eq_true_eq] at h1;rcases ax.1 hl with e|e;rw[e];exact h1;have:=i2 a rfl l e;omega
theorem mN{l aP:Int}:iq l aP=true↔l≠0 ∧ -aP≤l∧l≤aP:=by simp only[iq,ab,decide_eq_true_eq,dM]
theorem uU{c:List Int}{aP:Int}(h:mz c aP=true):(0≤aP∧aP≤60)∧YB c∧∀l∈c,l≠0 ∧ -aP≤l∧l≤aP:=by simp only[mz,ab,dM] at h;exact⟨h.1,(Fa h.2).1,fun l hl=>mN.1 (Gi h.2 l hl)⟩
theorem agC{c:List Int}{aP:Int}(h:mz c aP=true):oi (c.map fun l=>-l):=by obtain⟨h1,h2,h3⟩:=uU h;refine⟨?_,fun x hx=>?_⟩;rw[oH];refine List.Pairwise.imp_of_mem ?_ h2;intro a b _ _ hab e;rw[Int.natAbs_neg,Int.natAbs_neg] at e;omega;obtain⟨l,hl,rfl⟩:=bq.1 hx;have:=h3 l hl;omega
theorem Rx{put:List Int}{au:List (List Int)}(hp:oi put)(hc:∀x∈au,∀l∈x,l≠0∧l.natAbs≤60)(h:(scan put au).1≠0):oi (put++[(scan put au).1]):=by obtain⟨c,hc1,h1,h2,h3⟩:=KB h;have:=hc c hc1 _ h1;exact yd hp this.1 this.2 h2 h3
theorem EZ(atoms:List bz)(t:aU)(c:gI):cF atoms t c =
 if t.kind=1 then(c,if t.lit.no then -(dk atoms t.lit.aY+1) else dk atoms t.lit.aY+1) else
 if t.kind=2 then((jc atoms t.ar c).1,-((jc atoms t.ar c).2.getD 0 0)) else
 (pM t.kind ⟨(jc atoms t.ar c).1.aP+1,(jc atoms t.ar c).1.au⟩ ((jc atoms t.ar c).1.aP+1) ((jc atoms t.ar c).2.getD 0 0) ((jc atoms t.ar c).2.getD 1 0),(jc atoms t.ar c).1.aP+1):=by
 cases t;rfl
theorem mr(c:gI)(l:List Int):(fF c l).aP=c.aP:=by unfold fF;split<;>rfl
theorem hH(c:gI)(l:List Int):(fF c l).au.length≤c.au.length+1:=by unfold fF;split<;>simp
theorem K9(c:gI)(v a b:Int):(XI c v a b).aP=c.aP:=by simp only[XI,mr]
theorem aaU(c:gI)(v a b:Int):(M6 c v a b).aP=c.aP:=by simp only[M6,mr]
theorem vL(k:Int)(c:gI)(v a b:Int):(pM k c v a b).aP=c.aP:=by unfold pM;split;exact K9 _ _ _ _;split;exact K9 _ _ _ _;split;exact K9 _ _ _ _;exact aaU _ _ _ _
theorem Qx(c:gI)(v a b:Int):(XI c v a b).au.length≤c.au.length+4:=by unfold XI;have h1:=hH (fF (fF c [v,-a]) [v,-b]) [-v,a,b];have h2:=hH (fF c [v,-a]) [v,-b];have h3:=hH c [v,-a];omega
theorem acb(c:gI)(v a b:Int):(M6 c v a b).au.length≤c.au.length+4:=by unfold M6;have h1:=hH (fF (fF (fF c [-v,-a,b]) [-v,a,-b]) [v,a,b]) [v,-a,-b];have h2:=hH (fF (fF c [-v,-a,b]) [-v,a,-b]) [v,a,b];have h3:=hH (fF c [-v,-a,b]) [-v,a,-b];have h4:=hH c [-v,-a,b];omega
theorem Zy(k:Int)(c:gI)(v a b:Int):(pM k c v a b).au.length≤c.au.length+4:=by unfold pM;split;exact Qx _ _ _ _;split;exact Qx _ _ _ _;split;exact Qx _ _ _ _;exact acb _ _ _ _
mutual
theorem ja:∀(t:aU)(d:Nat)(atoms:List bz)(c:gI),bH t d=true→c.aP≤(cF atoms t c).1.aP∧(cF atoms t c).1.aP≤c.aP+dY t d∧(cF atoms t c).1.au.length≤c.au.length+4*dY t d
 | .mk k l ks,0,_,_,h=>by simp[bH] at h
 | .mk k l ks,d+1,atoms,c,h=>by simp only[bH,ab] at h;have ih:=AJ ks d atoms c h.2;simp only[cF,dY];split;simp only;omega;split;simp only;omega;simp only[vL];have:=Zy k ⟨(jc atoms ks c).1.aP+1,(jc atoms ks c).1.au⟩ ((jc atoms ks c).1.aP+1) ((jc atoms ks c).2.getD 0 0) ((jc atoms ks c).2.getD 1 0);simp only at this;omega
theorem AJ:∀(ts:List aU)(d:Nat)(atoms:List bz)(c:gI),cQ ts d=true→c.aP≤(jc atoms ts c).1.aP∧(jc atoms ts c).1.aP≤c.aP+dp ts d∧(jc atoms ts c).1.au.length≤c.au.length+4*dp ts d
 | [],_,_,c,_=>by simp[jc,dp]
 | t::ts,d,atoms,c,h=>by simp only[cQ,ab] at h;have h1:=ja t d atoms c h.1;have h2:=AJ ts d atoms (cF atoms t c).1 h.2;simp only[jc,dp];omega
end
theorem U8(atoms:List bz)(t:aU)(c:gI):jc atoms [t] c=((cF atoms t c).1,[(cF atoms t c).2]):=rfl
theorem kZ:∀(t:aU)(d:Nat)(atoms:List bz)(c:gI),bH t d=true→inside atoms t→(atoms.length:Int)≤c.aP→0≤c.aP→(cF atoms t c).2≠0 ∧ -(cF atoms t c).1.aP≤(cF atoms t c).2∧(cF atoms t c).2≤(cF atoms t c).1.aP:=by
 refine aU.ind fun k l ks ih d atoms c h jY hc h0=>?_;cases d with
 | zero=>simp[bH] at h
 | succ d=>
 have hg:=ja (.mk k l ks) (d+1) atoms c h;have hk:=fY h;rw[EZ] at hg⊢;rcases aa ((aU.mk k l ks).kind=1) with h1|h1;rw[if_pos h1] at hg⊢;have hm:=zD jY h1;have h2:=oN.2 hm;have h3:=LQ hm;simp only;split<;>omega;rw[if_neg h1] at hg⊢;rcases aa ((aU.mk k l ks).kind=2) with h2|h2;rw[if_pos h2] at hg⊢;have fj:(aU.mk k l ks).ar.length=1:=by have:=hk.1;simp only[jB,ab,decide_eq_true_eq] at this;have e:=this.1;rw[h2] at e;have e2:fG 2=1:=rfl;omega
 obtain⟨u,hu⟩:=fE.1 fj;have hum:u∈(aU.mk k l ks).ar:=by rw[hu];simp
 have hku:=ih u hum d atoms c (dF hk.2.2 u hum) (gH jY h1 u hum) hc h0;rw[hu,U8];simp only[List.getD_cons_zero];omega;rw[if_neg h2] at hg⊢;have hgs:=AJ (aU.mk k l ks).ar d atoms c hk.2.2;simp only[vL];omega
theorem Ui:∀{l:List Int}{n:Int}{o:List Int},DK l n=some o→o.length≤l.length+1∧∀x∈o,x=n∨x∈l
 | [],n,o,h=>by simp only[DK,Option.some.injEq] at h;rw[←h];simp
 | a::l,n,o,h=>by
  rcases fg a.natAbs n.natAbs with h1|h1|h1
  ·rw[DK,if_pos h1] at h;cases hp:DK l n with
   | none=>rw[hp] at h;cases h
   | some o'=>rw[hp] at h;simp only[dV,Option.some.injEq] at h;obtain⟨i1,i2⟩:=Ui hp;rw[←h];refine⟨by simp only[aG];omega,fun x hx=>?_⟩;rcases ax.1 hx with e|e;exact .inr (by rw[e];simp);rcases i2 x e with e2|e2;exact .inl e2;exact .inr (bf _ e2)
  rw[DK,if_neg oM,if_pos h1] at h;split at h;simp only[Option.some.injEq] at h;rw[←h];exact⟨oM,fun x hx=>.inr hx⟩;cases h;rw[DK,if_neg oM,if_neg oM] at h;simp only[Option.some.injEq] at h;rw[←h];exact⟨by simp,fun x hx=>ax.1 hx⟩
theorem LZ:∀{ns out o:List Int},tV out ns=some o→o.length≤out.length+ns.length∧∀x∈o,x∈ns∨x∈out
 | [],out,o,h=>by simp only[tV,Option.some.injEq] at h;rw[←h];simp
 | n::ns,out,o,h=>by simp only[tV] at h;split at h;cases h;rename_i o' hp;obtain⟨i1,i2⟩:=Ui hp;obtain⟨j1,j2⟩:=LZ h;refine⟨by simp only[aG];omega,fun x hx=>?_⟩;rcases j2 x hx with e|e;exact .inl (bf _ e);rcases i2 x e with e2|e2;exact .inl (by rw[e2];simp);exact .inr e2
theorem Qa{l o:List Int}(h:hQ l=some o):o.length≤l.length∧∀x∈o,x∈l:=by unfold hQ at h;split at h;obtain⟨i1,i2⟩:=LZ h;refine⟨by simpa using i1,fun x hx=>?_⟩;rcases i2 x hx with e|e;exact e;simp at e;cases h
theorem QS{l:List Int}(h:(l.all fun x=>iq x 60)=false):hQ l=none:=by unfold hQ;rw[h];rfl
theorem NT{l:List Int}(h:(l.all fun x=>iq x 60)=true):hQ l=tV [] l:=by unfold hQ;rw[h];rfl
theorem adj{l:List Int}(h:(l.all fun x=>iq x 60)=true):∀x∈l,x≠0∧x.natAbs≤60:=by intro x hx;have:=mN.1 (bh.1 h x hx);omega
def EH(l:List Int):Bool:=l.all fun x=>iq x 60&& !l.contains (-x)
theorem rL(l:List Int):hQ l=if EH l then some (compact (ik l)) else none:=by
 rcases aa ((l.all fun x=>iq x 60)=true) with h1|h1;have h0:=adj h1;rw[NT h1];rcases aa (EH l=true) with h2|h2;rw[if_pos h2];refine Oq (fun x hx=>(h0 x hx).1) fun x hx hn=>?_;have:=bh.1 h2 x hx;simp at this;exact this.2 hn;rw[if_neg h2];refine IH List.Pairwise.nil (fun x hx=>(h0 x hx).1) ?_;have h3:∃x∈l,¬ (iq x 60&& !l.contains (-x))=true:=by refine Classical.byContradiction fun hh=>h2 (bh.2 fun x hx=>?_);exact Classical.byContradiction fun h4=>hh ⟨x,hx,h4⟩
 obtain⟨x,hx,hh⟩:=h3;have hm:=bh.1 h1 x hx;rw[hm,Bool.true_and] at hh;cases hc:l.contains (-x);rw[hc] at hh;exact absurd rfl hh;exact⟨x,hx,.inl (cJ.1 hc)⟩;have h2:(l.all fun x=>iq x 60)=false:=by simpa using h1
 rw[QS h2];have h3:¬EH l=true:=fun hh=>h1 (bh.2 fun x hx=>by
  have:=bh.1 hh x hx
  simp only[ab] at this
  exact this.1)
 rw[if_neg h3]
def um(c:List Int)(i:Nat):Option Int:=if i=0 then none else c[i-1]?
theorem Ea{c:List Int}{i:Nat}(h:i<c.length):um c (i+1)=some c[i]:=by simp[um,h]
theorem NC{aP:Int}{c:List Int}{i:Nat}(h:i<c.length)(h0:i=0):lY aP (um c i) (c.drop i)=(iq c[i] aP&&lY aP (um c (i+1)) (c.drop (i+1))):=by rw[ai h,Ea h];subst h0;simp[um,lY]
theorem NV{aP:Int}{c:List Int}{i:Nat}(h:i<c.length)(h0:i≠0)(h1:i-1<c.length):lY aP (um c i) (c.drop i)=(iq c[i] aP&&(decide (c[i-1].natAbs<c[i].natAbs)&&lY aP (um c (i+1)) (c.drop (i+1)))):=by
 have e:um c i=some c[i-1]:=by simp[um,h0,h1]
 rw[ai h,Ea h,e];simp only[lY]
def CW(put:List Int):List Int→Int→Int→Int×Bool
 | [],f,n=>(if 1<n then 0 else f,decide (n=0))
 | l::ls,f,n=>if put.contains l then(0,false) else if put.contains (-l) then CW put ls f n else CW put ls l (n+1)
theorem Ls(put:List Int):∀(c:List Int)(f n:Int),0≤n→CW put c f n=if c.any put.contains then(0,false) else
 (if 1<n+(c.filter fun l=>!put.contains (-l)).length then 0 else(c.filter fun l=>!put.contains (-l)).getLastD f,decide (n+(c.filter fun l=>!put.contains (-l)).length=0))
 | [],f,n,h=>by simp[CW]
 | l::ls,f,n,h=>by rw[CW,List.any_cons,fB];cases h1:put.contains l;cases h2:put.contains (-l);simp only[aw,if_false,mV,Bool.not_false,if_true];rw[Ls put ls l (n+1) oM,aG,List.getLastD_cons];have e:n+1+((ls.filter fun l=>!put.contains (-l)).length:Int)=n+(((ls.filter fun l=>!put.contains (-l)).length+1:Nat):Int):=oM;rw[e];simp only[aw,if_false,mV,Bool.not_true,if_true];exact Ls put ls f n h;simp
theorem U3(put c:List Int):unit put c=CW put c 0 0:=by
 rw[Ls put c 0 0 oM,unit];split;rfl;split;rename_i h;rw[h];rfl;rename_i l h;rw[h];rfl;rename_i h1 h2;cases hf:c.filter fun l=>!put.contains (-l) with
 | nil=>exact absurd hf h1
 | cons a t=>
  cases t with
  | nil=>exact absurd hf (h2 a)
  | cons b t=>have e:(1:Int)<0+((a::b::t).length:Int):=(by simp only[aG];omega);have e2:¬ (0+((a::b::t).length:Int)=0):=(by simp only[aG];omega);rw[if_pos e,decide_eq_false e2]
theorem aeP{c:List Int}{aP:Int}(h:mz c aP=true):c.length≤60:=by
 have:=uR (agC h)
 rwa [cd] at this
theorem sR{k:Int}{l:cC}{ks:List aU}(h:jB k l ks=true):(k=1∧ks.length=0)∨(k=2∧ks.length=1)∨((k=3∨k=4∨k=5∨k=6)∧ks.length=2):=by simp only[jB,ab,decide_eq_true_eq] at h;have h1:=h.1;unfold fG at h1;split at h1<;>omega
theorem Ux{atoms:List bz}{ks:List aU}{c:gI}(h:ks.length=1):jc atoms ks c=((cF atoms ks[0] c).1,[(cF atoms ks[0] c).2]):=by
 match ks,h with
 | [u],_=>rfl
theorem US{atoms:List bz}{ks:List aU}{c:gI}(h:ks.length=2):jc atoms ks c=((cF atoms ks[1] (cF atoms ks[0] c).1).1,[(cF atoms ks[0] c).2,(cF atoms ks[1] (cF atoms ks[0] c).1).2]):=by
 match ks,h with
 | [u,v],_=>rfl
theorem Cj{atoms:List bz}{t:aU}{c:gI}(h:t.kind=1):cF atoms t c=(c,if t.lit.no then -(dk atoms t.lit.aY+1) else dk atoms t.lit.aY+1):=by rw[EZ,if_pos h]
theorem Cb{atoms:List bz}{t:aU}{c:gI}(h:t.kind=2)(hl:t.ar.length=1):cF atoms t c=((cF atoms t.ar[0] c).1,-(cF atoms t.ar[0] c).2):=by rw[EZ,if_neg oM,if_pos h,Ux hl];rfl
def two(atoms:List bz)(u v:aU)(c:gI):gI:=(cF atoms v (cF atoms u c).1).1
theorem Ca{atoms:List bz}{t:aU}{c:gI}(h1:t.kind≠1)(h2:t.kind≠2)(hl:t.ar.length=2):cF atoms t c =
 (pM t.kind ⟨(cF atoms t.ar[1] (cF atoms t.ar[0] c).1).1.aP+1,(cF atoms t.ar[1] (cF atoms t.ar[0] c).1).1.au⟩ ((cF atoms t.ar[1] (cF atoms t.ar[0] c).1).1.aP+1) (cF atoms t.ar[0] c).2 (cF atoms t.ar[1] (cF atoms t.ar[0] c).1).2,(cF atoms t.ar[1] (cF atoms t.ar[0] c).1).1.aP+1):=by
 rw[EZ,if_neg h1,if_neg h2,US hl]
 rfl
theorem pf{au:List aU}{f:aU}(h:f∈au):inside (bF [] au) f:=fun u hu=>ry au [] f h u hu
theorem Xm{atoms:List bz}{au:List aU}{c:gI}{i:Nat}(h:i<au.length):rU atoms (au.drop i) c=rU atoms (au.drop (i+1)) (fF (cF atoms au[i] c).1 [(cF atoms au[i] c).2]):=by rw[ai h];rfl
theorem Tp{au:List mh}{c:gI}{i:Nat}(h:i<au.length):gx c (au.drop i)=gx (fF c (au[i].marks.map fun m=>-m)) (au.drop (i+1)):=by rw[ai h];rfl
theorem WH{au:List aU}(h:cR au=none):gU au=ZD:=by unfold gU;rw[h]
theorem zM{au:List aU}{atoms:List bz}(h:cR au=some atoms):gU au=rU atoms au ⟨atoms.length,[]⟩:=by unfold gU;rw[h]
theorem fZ{au:List aU}{atoms:List bz}(h:cR au=some atoms):au.length≤5∧(∀f∈au,jq f=true)∧atoms.length≤6∧atoms=bF [] au:=by have e:=pX au;rcases aa (au.length≤5∧au.all jq=true∧(bF [] au).length≤6) with hc|hc;rw[if_pos hc,h] at e;have e2:=Option.some.inj e;exact⟨hc.1,bh.1 hc.2.1,by rw[e2];exact hc.2.2,e2⟩;rw[if_neg hc,h] at e;cases e
theorem Zp{au:List aU}{atoms:List bz}(h:cR au=some atoms){i:Nat}(hi:i<au.length){c:gI}(h1:(atoms.length:Int)≤c.aP)(h2:c.aP≤6+31*i)(h3:c.au.length≤125*i) :
 (cF atoms au[i] c).2≠0 ∧ -1000≤(cF atoms au[i] c).2∧(cF atoms au[i] c).2≤1000∧bH au[i] 5=true∧inside atoms au[i]∧(cF atoms au[i] c).1.au.length≤125*i+124 ∧
 (atoms.length:Int)≤(fF (cF atoms au[i] c).1 [(cF atoms au[i] c).2]).aP∧(fF (cF atoms au[i] c).1 [(cF atoms au[i] c).2]).aP≤6+31*((i+1:Nat):Int)∧(fF (cF atoms au[i] c).1 [(cF atoms au[i] c).2]).au.length≤125*(i+1):=by
 obtain⟨p1,p2,p3,p4⟩:=fZ h
 have hs:=nT (p2 au[i] (ah hi))
 have jY:inside atoms au[i]:=by rw[p4];exact pf (ah hi)
 have g:=ja au[i] 5 atoms c hs.1
 have m:=nJ au[i] 5 hs.1
 have q:=kZ au[i] 5 atoms c hs.1 jY h1 oM
 have a:=hH (cF atoms au[i] c).1 [(cF atoms au[i] c).2]
 rw[mr]
 refine⟨q.1,oM,oM,hs.1,jY,oM,oM,oM,oM⟩
theorem Ij:∀(fs:List aU)(atoms:List bz)(c:gI),(∀f∈fs,jq f=true)→(rU atoms fs c).au.length≤c.au.length+125*fs.length
 | [],_,_,_=>by simp[rU]
 | f::fs,atoms,c,h=>by have hs:=nT (h f (by simp));have g:=ja f 5 atoms c hs.1;have m:=nJ f 5 hs.1;have a:=hH (cF atoms f c).1 [(cF atoms f c).2];have ih:=Ij fs atoms (fF (cF atoms f c).1 [(cF atoms f c).2]) fun x hx=>h x (by simp[hx]);simp only[rU,aG];omega
theorem aaJ(au:List aU):(gU au).au.length≤625:=by
 cases h:cR au with
 | none=>rw[WH h];simp[ZD]
 | some atoms=>obtain⟨p1,p2,p3,p4⟩:=fZ h;have:=Ij au atoms ⟨atoms.length,[]⟩ p2;rw[zM h];simp only[List.length_nil] at this;omega
theorem acP{marks:List Int}{aP:Nat}(h:iz marks aP=true)(hm1:aP≤6):marks.length≤12:=by
 have hmem:=zZ h
 have hp:=(MC (aP:=aP) (before:=[]) h).1
 have h1:=QJ 12 (marks.map fun m=>if m<0 then(m+6).toNat else(m+5).toNat) (by
  rw[oH];refine List.Pairwise.imp_of_mem ?_ hp;intro a b ha hb hab e;have:=hmem a ha;have:=hmem b hb;split at e<;>split at e<;>exact hab oM) (fun x hx=>by
  obtain⟨m,hm,rfl⟩:=bq.1 hx;have:=hmem m hm;split<;>omega)
 rwa [cd] at h1
def RZ(a b:Int):Int:=if a<b then -1 else if b<a then 1 else 0
theorem Tm{a b:Int}:RZ a b<0↔a<b:=by unfold RZ;split;simp[*];split<;>simp[*]
def sk(p:List Int)(x:Int)(r:List Int)(j:Nat):List Int:=p.take j++x::(p.drop j++r)
theorem afT(l:List Int)(n:Int):(ins l n).length=l.length+1:=by
 unfold ins;rw[ay,aG];have h:∀l:List Int,(l.filter fun x=>decide (x.natAbs≤n.natAbs)).length+(l.filter fun x=>decide (n.natAbs<x.natAbs)).length=l.length:=by
  intro l;induction l with
  | nil=>rfl
  | cons a l ih=>simp only[fB];rcases b7 n.natAbs a.natAbs with h|h;have h2:¬a.natAbs≤n.natAbs:=oM;simp only[h,h2,decide_true,decide_false,if_true,aw,if_false,aG];omega;have h2:¬n.natAbs<a.natAbs:=oM;simp only[h,h2,decide_true,decide_false,if_true,aw,if_false,aG];omega
 have:=h l;omega
theorem KX(l:List Int)(x:Int):ik (l++[x])=ins (ik l) x:=by unfold ik;rw[List.foldl_append];rfl
theorem GR:∀(l:List Int),(ik l).length=l.length:=by
 intro l;have key:∀(l aW:List Int),(l.foldl ins aW).length=aW.length+l.length:=by
  intro l;induction l with
  | nil=>intro aW;rfl
  | cons a l ih=>intro aW;rw[iW,ih,afT,aG];omega
 have:=key l [];simpa[ik] using this
theorem ahC{p:List Int}{x:Int}{j:Nat}(h1:∀y∈p.take j,y.natAbs≤x.natAbs)(h2:∀y∈p.drop j,x.natAbs<y.natAbs):ins p x=p.take j++x::p.drop j:=by
 have e1:(p.filter fun y=>decide (y.natAbs≤x.natAbs))=p.take j:=by
  conv=>lhs;rw[←fq j p]
  rw[jd,List.filter_eq_self.2 fun y hy=>decide_eq_true (h1 y hy),List.filter_eq_nil_iff.2 fun y hy=>by have:=h2 y hy;simp;omega,List.append_nil]
 have e2:(p.filter fun y=>decide (x.natAbs<y.natAbs))=p.drop j:=by
  conv=>lhs;rw[←fq j p]
  rw[jd,List.filter_eq_nil_iff.2 fun y hy=>by have:=h1 y hy;simp;omega,List.filter_eq_self.2 fun y hy=>decide_eq_true (h2 y hy),bQ]
 unfold ins;rw[e1,e2]
theorem ahW{p:List Int}(x:Int)(r:List Int){j:Nat}(h:p.length≤j):sk p x r j=p++x::r:=by unfold sk;rw[ak h,al h,bQ]
theorem ahr{p:List Int}(x:Int)(r:List Int){j:Nat}(h:j≤p.length):(sk p x r j).length=p.length+1+r.length:=by unfold sk;simp only[ay,aG,a6,List.length_drop];omega
theorem ajv{p:List Int}(x:Int)(r:List Int){j:Nat}(h:j≤p.length)(hs:j<(sk p x r j).length):(sk p x r j)[j]=x:=by
 have e:(sk p x r j)[j]?=some x:=by unfold sk;rw[List.getElem?_append_right (by rw[a6];omega)];have e:j-(p.take j).length=0:=(by rw[a6];omega);rw[e];rfl
 rw[ae hs] at e;exact Option.some.inj e
theorem aaV{p:List Int}(x:Int)(r:List Int){j:Nat}(h:j≤p.length)(h0:0<j)(hp:j-1<p.length)(hs:j-1<(sk p x r j).length):(sk p x r j)[j-1]=p[j-1]:=by
 have e:(sk p x r j)[j-1]?=some p[j-1]:=by unfold sk;rw[br (by rw[a6];omega),List.getElem?_take_of_lt oM,ae hp]
 rw[ae hs] at e;exact Option.some.inj e
theorem af2{p:List Int}(x:Int)(r:List Int){k:Nat}(hp:k<p.length):((sk p x r (k+1)).set (k+1) p[k]).set k x=sk p x r k:=by
 have e1:p.take (k+1)=p.take k++[p[k]]:=by rw[bn,ae hp];rfl
 have hk:(p.take k).length=k:=by rw[a6];omega
 have e2:k+1-k=1:=oM;unfold sk;rw[e1,List.append_assoc,j5 _ _ oM,hk,j5 _ _ oM,hk,ai hp,Nat.sub_self,e2];rfl
theorem adB{p:List Int}{x:Int}{r:List Int}{j:Nat}(hs:Srt p)(hd:∀y∈p.drop j,x.natAbs<y.natAbs)(hj:∀hj0:j-1<p.length,0<j→(p[j-1]).natAbs≤x.natAbs)(hji:j≤p.length):sk p x r j=ins p x++r:=by rw[ahC (j:=j) (fun y hy=>?_) hd];unfold sk;simp;obtain⟨k,hk,rfl⟩:=List.mem_iff_getElem.1 hy;rw[a6] at hk;rw[List.getElem_take];have h1:=hj oM oM;rcases b7 k (j-1) with h2|h2;have:=(List.pairwise_iff_getElem.1 hs) k (j-1) oM oM h2;omega;have e2:k=j-1:=oM;subst e2;exact h1
theorem KG{d e:Array Int}:∀m,(∀j,j<m→d[j]! = e[j]!)→Lib.compactUpTo d m=Lib.compactUpTo e m
 | 0,_=>rfl
 | m+1,h=>by rw[Lib.compactUpTo_succ,Lib.compactUpTo_succ,KG m (fun j hj=>h j oM),h m oM];have e1:Lib.keeps d m=Lib.keeps e m:=(by unfold Lib.keeps;rw[h m oM,h (m-1) oM]);rw[e1]
theorem Gj:∀(zs:List Int)(x:Int),compact (zs++[x])=if zs.getLast?=some x then compact zs else compact zs++[x]
 | [],x=>by simp[compact]
 | [a],x=>by rcases aa (a=x) with h|h;simp[compact,h];simp[compact,h]
 | a::b::l,x=>by have ih:=Gj (b::l) x;rw[List.getLast?_cons_cons];simp only[bu,compact] at ih⊢;rcases aa (a=b) with h|h;rw[if_pos h,if_pos h,ih];rw[if_neg h,if_neg h,ih];split<;>rfl
theorem IY:∀(n:Nat)(zs:List Int),zs.length=n→Lib.compact zs=compact zs
 | 0,zs,h=>by rw[dI.1 h];rfl
 | n+1,zs,h=>by rcases List.eq_nil_or_concat zs with e|⟨ys,x,e⟩;rw[e] at h;cases h;rw[List.concat_eq_append] at e;subst e;have hl:ys.length=n:=(by simpa using h);have ih:=IY n ys hl;have e1:Lib.compact (ys++[x])=Lib.compactUpTo (ys++[x]).toArray (ys.length+1):=(by unfold Lib.compact;rw[ay];rfl);have e2:Lib.compactUpTo (ys++[x]).toArray ys.length=compact ys:=(by rw[←ih];refine KG _ fun j hj=>?_;simp[hj,List.getElem_append_left,Nat.lt_succ_of_lt hj]);have e3:(ys++[x]).toArray[ys.length]! = x:=(by simp);rw[e1,Lib.compactUpTo_succ,e2,e3,Gj];have e4:Lib.keeps (ys++[x]).toArray ys.length=decide (ys.getLast?≠some x):=(by unfold Lib.keeps;rw[e3,List.getLast?_eq_getElem?];rcases Nat.eq_zero_or_pos ys.length with h0|h0;have:ys=[]:=dI.1 h0;subst this;simp;have h1:ys.length-1<ys.length:=oM;have e5:(ys++[x]).toArray[ys.length-1]! = ys[ys.length-1]:=(by have e6:(ys++[x])[ys.length-1]?=some ys[ys.length-1]:=(by rw[br h1,ae h1]);rw[List.getElem!_toArray,getElem!_def,e6]);rw[e5,ae h1];refine decide_eq_decide.2 ⟨fun hh he=>?_,fun hh=>.inr fun he=>hh (by rw[he])⟩;rcases hh with hh|hh;omega;exact hh (Option.some.inj he).symm);rw[e4];rcases aa (ys.getLast?=some x) with h1|h1;simp[h1];simp[h1]
mutual
def fb:aU→List aU
 | .mk k l ks=>if k=1 then [] else if k=2 then jD ks else jD ks++[.mk k l ks]
def jD:List aU→List aU
 | []=>[]
 | t::ts=>fb t++jD ts
end
theorem HI(t:aU):fb t=if t.kind=1 then [] else if t.kind=2 then jD t.ar else jD t.ar++[t]:=by cases t;rfl
theorem Kx{t:aU}(h:t.kind=1):fb t=[]:=by rw[HI,if_pos h]
theorem Nt{t:aU}(h:t.kind=2)(hl:t.ar.length=1):fb t=fb t.ar[0]:=by rw[HI,if_neg oM,if_pos h];obtain⟨u,hu⟩:=fE.1 hl;simp[hu,jD]
theorem Lo{t:aU}(h1:t.kind≠1)(h2:t.kind≠2)(hl:t.ar.length=2):fb t=fb t.ar[0]++fb t.ar[1]++[t]:=by
 rw[HI,if_neg h1,if_neg h2];have key:∀(ks:List aU)(hl:ks.length=2),jD ks=fb ks[0]++fb ks[1]:=by
  intro ks hl
  match ks,hl with
  | [u,v],_=>simp[jD]
 rw[key t.ar hl]
mutual
theorem y9:∀(t:aU)(d:Nat),bH t d=true→(fb t).length≤dY t d
 | .mk k l ks,0,h=>by simp[bH] at h
 | .mk k l ks,d+1,h=>by simp only[bH,ab] at h;have ih:=H4 ks d h.2;simp only[fb,dY];split;simp;split;omega;rw[ay,List.length_singleton];omega
theorem H4:∀(ts:List aU)(d:Nat),cQ ts d=true→(jD ts).length≤dp ts d
 | [],_,_=>by simp[jD,dp]
 | t::ts,d,h=>by simp only[cQ,ab] at h;have h1:=y9 t d h.1;have h2:=H4 ts d h.2;simp only[jD,dp,ay];omega
end
set_option maxRecDepth 100000
def agZ:Nat→Int→p8→p8
 | 0,_,s=>s
 | n+1,k,s=>if 0<k then agZ n (k.tdiv 10) (UInt8.ofNat (48+k.tmod 10).toNat::s) else s
def adn(k:Int):p8:=if k≤0 then [109,48] else 109::agZ 20 k []
def Iq{α:Type}(f:α→Int→α×Int):List α→Int→List α×Int
 | [],k=>([],k)
 | x::xs,k=>((f x k).1::(Iq f xs (f x k).2).1,(Iq f xs (f x k).2).2)
theorem X9{α:Type}(f:α→Int→α×Int):∀(xs:List α)(k:Int),(Iq f xs k).1.length=xs.length
 | [],_=>rfl
 | x::xs,k=>by simp[Iq,X9 f xs]
def Mk{α:Type}(f:α→Int→α×Int)(ts:List α)(k:Int)(i:Nat)(zs:List α)(k':Int):Prop:=
 zs.length=ts.length∧i≤ts.length∧zs.drop i=ts.drop i∧Iq f ts k=(zs.take i++(Iq f (ts.drop i) k').1,(Iq f (ts.drop i) k').2)
theorem Mk.zero{α:Type}(f:α→Int→α×Int)(ts:List α)(k:Int):Mk f ts k 0 ts k:=⟨rfl,bT _,rfl,by simp⟩
theorem Mk.len{α:Type}{f:α→Int→α×Int}{ts zs:List α}{k k':Int}{i:Nat}(h:Mk f ts k i zs k'):zs.length=ts.length:=h.1
theorem Mk.at{α:Type}{f:α→Int→α×Int}{ts zs:List α}{k k':Int}{i:Nat}(h:Mk f ts k i zs k')(hi:i<ts.length):zs[i]'(by rw[h.1];exact hi)=ts[i]:=by
 have h1:zs.drop i=ts.drop i:=h.2.2.1;have e:(zs.drop i)[0]?=(ts.drop i)[0]?:=by rw[h1]
 rw[eY,eY,Nat.add_zero,ae hi,ae (by rw[h.1];exact hi)] at e;exact Option.some.inj e
theorem Mk.step{α:Type}{f:α→Int→α×Int}{ts zs:List α}{k k':Int}{i:Nat}(h:Mk f ts k i zs k')(hi:i<ts.length):Mk f ts k (i+1) (zs.set i (f ts[i] k').1) (f ts[i] k').2:=by
 obtain⟨h1,h2,h3,h4⟩:=h;have hd:ts.drop i=ts[i]::ts.drop (i+1):=ai hi;refine⟨by simpa using h1,hi,?_,?_⟩;rw[List.drop_set_of_lt oM];have e1:zs.drop (i+1)=(zs.drop i).drop 1:=by rw[l7]
 have e2:ts.drop (i+1)=(ts.drop i).drop 1:=by rw[l7]
 rw[e1,e2,h3];rw[h4,hd];simp only[Iq];have e:(zs.set i (f ts[i] k').1).take (i+1)=zs.take i++[(f ts[i] k').1]:=by rw[bn,List.take_set_of_le (aH i),List.getElem?_set_self oM];rfl
 rw[e];simp
theorem Mk.all{α:Type}{f:α→Int→α×Int}{ts zs:List α}{k k':Int}{i:Nat}(h:Mk f ts k i zs k')(hi:ts.length≤i):Iq f ts k=(zs,k'):=by obtain⟨h1,h2,h3,h4⟩:=h;rw[h4,al hi,ak oM];simp[Iq]
def mkI(n:Int)(k:Int):Int×Int:=(k,k+1)
mutual
def mkT:az→Int→az×Int
 | .mk _ ks,k=>(.mk (adn k) (ad6 ks (k+1)).1,(ad6 ks (k+1)).2)
def ad6:List az→Int→List az×Int
 | [],k=>([],k)
 | t::ts,k=>((mkT t k).1::(ad6 ts (mkT t k).2).1,(ad6 ts (mkT t k).2).2)
end
def aer(s:Sym)(k:Int):Sym×Int:=(⟨adn k,(Iq mkI s.args (k+1)).1,(Iq mkI s.args (k+1)).2⟩,(Iq mkI s.args (k+1)).2+1)
def mkAtom(a:bz)(k:Int):bz×Int:=
 let A:=mkT a.A (k+1)
 let B:=mkT a.B A.2
 let N:=ad6 a.an B.2
 let I:=Iq mkI a.bt N.2
 (⟨k,A.1,B.1,N.1,I.1,I.2,decide ((I.2+1).tmod 3=0)⟩,I.2+1+1)
def mkLit(l:cC)(k:Int):cC×Int:=(⟨(mkAtom l.aY k).1,decide ((mkAtom l.aY k).2.tmod 3=0)⟩,(mkAtom l.aY k).2+1)
mutual
def VU:aU→Int→aU×Int
 | .mk _ l ks,k=>(.mk k (mkLit l (k+1)).1 (Cs ks (mkLit l (k+1)).2).1,(Cs ks (mkLit l (k+1)).2).2)
def Cs:List aU→Int→List aU×Int
 | [],k=>([],k)
 | t::ts,k=>((VU t k).1::(Cs ts (VU t k).2).1,(Cs ts (VU t k).2).2)
end
def ajK(s:e7)(k:Int):e7×Int:=(⟨⟨(Iq aer s.sig.cq k).1⟩,(Iq Cs s.aA (Iq aer s.sig.cq k).2).1⟩,(Iq Cs s.aA (Iq aer s.sig.cq k).2).2)
mutual
def U0:az→Nat
 | .mk _ ks=>1+vt ks
def vt:List az→Nat
 | []=>0
 | t::ts=>U0 t+vt ts
end
def rR(s:Sym):Nat:=s.args.length+2
def tq(l:cC):Nat:=U0 l.aY.A+U0 l.aY.B+vt l.aY.an+l.aY.bt.length+4
mutual
def iw:aU→Nat
 | .mk _ l ks=>1+tq l+dU ks
def dU:List aU→Nat
 | []=>0
 | t::ts=>iw t+dU ts
end
def tL{α:Type}(c:α→Nat):List α→Nat
 | []=>0
 | x::xs=>c x+tL c xs
theorem Cd:∀(ts:List aU),dU ts=tL iw ts
 | []=>rfl
 | t::ts=>by simp[dU,tL,Cd ts]
theorem ahE(t:az):U0 t=1+vt t.ar:=by cases t;rfl
theorem B7(t:aU):iw t=1+tq t.lit+dU t.ar:=by cases t;rfl
def Hd{α:Type}(f:α→Int→α×Int)(ts zs:List α)(k:Int)(i:Nat)(q:Int):Prop:=
 zs.length=ts.length∧i≤ts.length∧zs.drop i=(Iq f (ts.drop i) q).1∧(Iq f ts k).2=(Iq f (ts.drop i) q).2
theorem Hd.zero{α:Type}(f:α→Int→α×Int)(ts:List α)(k:Int):Hd f ts (Iq f ts k).1 k 0 k:=⟨X9 f ts k,bT _,by simp,by simp⟩
theorem Hd.at{α:Type}{f:α→Int→α×Int}{ts zs:List α}{k q:Int}{i:Nat}(h:Hd f ts zs k i q)(hi:i<ts.length):zs[i]'(by rw[h.1];exact hi)=(f ts[i] q).1:=by have h1:=h.2.2.1;rw[ai hi,ai (by rw[h.1];exact hi)] at h1;simp only[Iq] at h1;exact(List.cons.inj h1).1
theorem Hd.step{α:Type}{f:α→Int→α×Int}{ts zs:List α}{k q:Int}{i:Nat}(h:Hd f ts zs k i q)(hi:i<ts.length):Hd f ts zs k (i+1) (f ts[i] q).2:=by obtain⟨h1,h2,h3,h4⟩:=h;rw[ai hi] at h3 h4;rw[ai (by rw[h1];exact hi)] at h3;simp only[Iq] at h3 h4;exact⟨h1,hi,(List.cons.inj h3).2,h4⟩
theorem Hd.all{α:Type}{f:α→Int→α×Int}{ts zs:List α}{k q:Int}{i:Nat}(h:Hd f ts zs k i q)(hi:ts.length≤i):(Iq f ts k).2=q:=by rw[h.2.2.2,al hi];rfl
def fc(k:e7):Bool:=c8 k.aA.length 1 4&&gl k.sig k.aA.flatten
def gN(k:e7):e7×Bool:=
 if fc k then(if k.aA.length=1 then(k,false) else(⟨k.sig,k.aA.take (k.aA.length-1)⟩,true)) else(⟨⟨[]⟩,[]⟩,false)
theorem tf{k:e7}(h:fc k=true):1≤k.aA.length∧k.aA.length≤4:=by simp only[fc,ab] at h;have:=dM.1 h.1;omega
theorem nL:∀(fs:List aU),fs.length≤dU fs
 | []=>by simp[dU]
 | f::fs=>by have:=nL fs;simp only[dU,B7,aG];omega
theorem w9:∀(a b:List aU),dU (a++b)=dU a+dU b
 | [],b=>by simp[dU]
 | x::a,b=>by simp only[bu,dU,w9 a b];omega
theorem gM:∀(l:List (List aU)),l.flatten.length≤tL dU l
 | []=>by simp
 | x::l=>by have h1:=gM l;have h2:=nL x;simp only[List.flatten_cons,ay,tL];omega
def di(k:e7):Nat:=tL rR k.sig.cq+tL dU k.aA
def cM:List (List aU)→aU→List (List aU)
 | [],_=>[]
 | [x],f=>[x++[f]]
 | x::y::l,f=>x::cM (y::l) f
def bZ(k:e7)(f:aU):e7×Bool:=
 if fc k then(if fc ⟨k.sig,cM k.aA f⟩ then(⟨k.sig,cM k.aA f⟩,true) else(k,false)) else(⟨⟨[]⟩,[]⟩,false)
theorem qT:∀(l:List (List aU))(f:aU),(cM l f).length=l.length
 | [],_=>rfl
 | [_],_=>rfl
 | x::y::l,f=>by simp[cM,qT (y::l) f]
theorem zx:∀(l:List (List aU))(f:aU)(h:0<l.length),cM l f=l.set (l.length-1) (l[l.length-1]'oM++[f])
 | [x],f,_=>rfl
 | x::y::l,f,_=>by have:=zx (y::l) f (by simp);simp only[cM,this];simp
theorem wO:∀(l:List (List aU))(f:aU),tL dU (cM l f)≤tL dU l+iw f
 | [],f=>by simp[cM,tL]
 | [x],f=>by simp[cM,tL,w9,dU]
 | x::y::l,f=>by have:=wO (y::l) f;simp only[cM,tL] at this⊢;omega
theorem Q4(k:e7)(f:aU):di (bZ k f).1≤di k+iw f:=by unfold bZ;split;split;have:=wO k.aA f;simp only[di];omega;simp only[di];omega;simp[di,tL]
def akl(c:gI):Prop:=∀x∈c.au,x.length≤12
def pw(au:List aU)(ls:List mh):Bool:=match cR au with
 | none=>false
 | some atoms=>decide (ls.length≤64)&&ls.all fun l=>iz l.marks atoms.length
theorem Dz(au:List aU)(p:F8):yr au p=if pw au p.ke then gx (gU au) p.ke else ZD:=by
 unfold yr pw;cases h:cR au with
 | none=>rfl
 | some atoms=>rfl
theorem MY{au:List aU}{ls:List mh}(h:cR au=none):pw au ls=false:=by unfold pw;rw[h]
theorem Nb{au:List aU}{ls:List mh}{atoms:List bz}(h:cR au=some atoms):pw au ls=(decide (ls.length≤64)&&ls.all fun l=>iz l.marks atoms.length):=by unfold pw;rw[h]
end Go.Mod
