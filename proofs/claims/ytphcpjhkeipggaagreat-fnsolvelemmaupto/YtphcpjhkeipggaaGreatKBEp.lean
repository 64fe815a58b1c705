/-
  What the program's search computes, and that it tells the truth. In plain Lean, no program is walked here.
-/
import Derived.Test.YtphcpjhkeipggaaGreatKBEo
import Derived.Test.YtphcpjhkeipggaaGreatKBEn
import Derived.Test.YtphcpjhkeipggaaGreatKBEb
set_option linter.unusedVariables false
set_option linter.unusedSimpArgs false
open Bool renaming and_eq_true→ah
open Classical renaming em→aa
open List renaming length_append→aP,length_cons→aY,range→bK,length_singleton→fh,contains_iff_mem→ov
namespace Go.Mod
open Go.Eng
set_option maxRecDepth 100000
structure J3 where
 fuel:Int
 log:List (List Int)
 out:Bool
 aF:List Bool
 found:Bool
def J3.h(r:J3):Cd:=⟨r.fuel,r.log,r.out⟩
def Ri(dec:List Int)(h:Cd):J3:=⟨h.fuel,h.log++[(FD (dec.map fun l=>-l)).getD []],h.out,[],false⟩
def aeS(put:List Int)(dL:Nat):List Bool:=(bK dL).map fun(i:Nat)=>put.contains ((i:Int)+1)
def vQ(c:wo):Nat→List Int→Cd→J3
 | 0,_,h=>⟨h.fuel,h.log,true,[],false⟩
 | d+1,dec,h=>if h.fuel=0 then⟨h.fuel,h.log,true,[],false⟩ else
   if(pO c.aS dec).2 then Ri dec ⟨h.fuel-1,h.log,h.out⟩ else
   let f:=u7 (pO c.aS dec).1 c.dL.toNat 0
   if f=0 then⟨h.fuel-1,h.log,h.out,aeS (pO c.aS dec).1 c.dL.toNat,true⟩ else
   let g:=vQ c d (dec++[-f]) ⟨h.fuel-1,h.log,h.out⟩
   if(g.found||g.out)=true then g else
   let k:=vQ c d (dec++[f]) g.h
   if(k.found||k.out)=true then k else Ri dec k.h
def aaq(c:wo)(d:Nat)(dec:List Int)(f:Int)(g:Cd):J3:=if((vQ c d (dec++[f]) g).found||(vQ c d (dec++[f]) g).out)=true then vQ c d (dec++[f]) g else Ri dec (vQ c d (dec++[f]) g).h
def afA(c:wo)(d:Nat)(dec:List Int)(f:Int)(g:Cd):J3:=if((vQ c d (dec++[-f]) g).found||(vQ c d (dec++[-f]) g).out)=true then vQ c d (dec++[-f]) g else aaq c d dec f (vQ c d (dec++[-f]) g).h
def aik(c:wo)(d:Nat)(dec:List Int)(f:Int)(i:Nat)(g:Cd):J3:=if i=0 then afA c d dec f g else if i=1 then aaq c d dec f g else Ri dec g
def DT(m k:Int):Bool:=!decide (k=m)
def wx(s:eM)(atoms:List cR):List Int→nY→nY
 | [],l=>l
 | m::ms,l=>if l.marks.length=1 then l else
   if(eh s (cH (l.marks.filter (DT m)) atoms)).code=1 then wx s atoms ms ⟨l.marks.filter (DT m),(eh s (cH (l.marks.filter (DT m)) atoms)).case⟩ else wx s atoms ms l
theorem Q1(s:eM)(atoms:List cR):∀(ms:List Int)(l:nY),(eh s (cH l.marks atoms)).code=1→(eh s (cH (wx s atoms ms l).marks atoms)).code=1
 | [],l,h=>h
 | m::ms,l,h=>by rw[wx];split;exact h;split;rename_i h1;exact Q1 s atoms ms _ h1;exact Q1 s atoms ms l h
theorem Yk{s:eM}{atoms:List cR}{marks:List Int}{l:nY}{i:Nat}(h:i<marks.length):wx s atoms (marks.drop i) l=if l.marks.length=1 then l else
 if(eh s (cH (l.marks.filter (DT marks[i])) atoms)).code=1 then wx s atoms (marks.drop (i+1)) ⟨l.marks.filter (DT marks[i]),(eh s (cH (l.marks.filter (DT marks[i])) atoms)).case⟩ else wx s atoms (marks.drop (i+1)) l:=by
 rw[List.drop_eq_getElem_cons h,wx]
def mw(aF:List Bool)(n:Nat):List Int:=(bK n).map fun(i:Nat)=>if aF.getD i false then(i:Int)+1 else -1-(i:Int)
theorem Dw(aF:List Bool)(n:Nat):(mw aF n).length=n:=by simp[mw]
theorem TG{aF:List Bool}{n:Nat}:mw aF (n+1)=mw aF n++[if aF.getD n false then(n:Int)+1 else -1-(n:Int)]:=by simp only[mw,List.range_succ,List.map_append,List.map_cons,List.map_nil]
theorem KE(s:eM)(atoms:List cR):∀(ms:List Int)(l:nY),(wx s atoms ms l).marks.Sublist l.marks
 | [],l=>List.Sublist.refl _
 | m::ms,l=>by rw[wx];split;exact List.Sublist.refl _;split;exact(KE s atoms ms _).trans List.filter_sublist;exact KE s atoms ms l
def E9(c:wo):List Bool×List (List Int)×Bool:=
 if O4 c then(if(vQ c 130 [] ⟨130,[],false⟩).found then((vQ c 130 [] ⟨130,[],false⟩).aF,[],true) else
  if(vQ c 130 [] ⟨130,[],false⟩).out=true∨400<(vQ c 130 [] ⟨130,[],false⟩).log.length+c.aS.length then([],[],false) else([],(vQ c 130 [] ⟨130,[],false⟩).log,true)) else([],[],false)
def acd:dQ×Kw×Int:=(⟨[]⟩,⟨[],[]⟩,2)
def Xo(s:eM)(aS:List bU)(atoms:List cR):Nat→List nY→dQ×Kw×Int
 | 0,_=>acd
 | n+1,ls=>if(E9 (vK (Cw aS) ls)).2.2=false then acd else
   if(E9 (vK (Cw aS) ls)).2.1≠[] then(⟨[]⟩,⟨ls,(E9 (vK (Cw aS) ls)).2.1⟩,1) else
   if(eh s (cH (mw (E9 (vK (Cw aS) ls)).1 atoms.length) atoms)).code=0 then((eh s (cH (mw (E9 (vK (Cw aS) ls)).1 atoms.length) atoms)).model,⟨[],[]⟩,0) else
   if(eh s (cH (mw (E9 (vK (Cw aS) ls)).1 atoms.length) atoms)).code≠1∨ls.length=64 then acd else
   Xo s aS atoms n (ls++[wx s atoms (mw (E9 (vK (Cw aS) ls)).1 atoms.length) ⟨mw (E9 (vK (Cw aS) ls)).1 atoms.length,(eh s (cH (mw (E9 (vK (Cw aS) ls)).1 atoms.length) atoms)).case⟩])
def ahV(s:eM)(aS:List bU):dQ×Kw×Int:=if hH s aS then Xo s aS ((fc aS).getD []) 65 [] else(⟨[]⟩,⟨[],[]⟩,3)
def Eo(s:eM)(atoms:List cR):Nat→Nat→nY→nY
 | 0,_,l=>l
 | n+1,i,l=>if l.marks.length≤i then l else
   if l.marks.take i++l.marks.drop (i+1)=[] then l else
   if(eh s (cH (l.marks.take i++l.marks.drop (i+1)) atoms)).code=1 then Eo s atoms n i ⟨l.marks.take i++l.marks.drop (i+1),(eh s (cH (l.marks.take i++l.marks.drop (i+1)) atoms)).case⟩ else Eo s atoms n (i+1) l
theorem acP{m:Int}{a b:List Int}(h:(a++m::b).Nodup):(a++m::b).filter (DT m)=a++b:=by
 have hn:=List.nodup_append.1 h;have h2:=List.nodup_cons.1 hn.2.1;have ha:a.filter (DT m)=a:=List.filter_eq_self.2 fun x hx=>by have:=hn.2.2 x hx m (by simp);simpa[DT] using this
 have hb:b.filter (DT m)=b:=List.filter_eq_self.2 fun x hx=>by have:x≠m:=fun e=>h2.1 (e▸hx);simpa[DT] using this
 rw[List.filter_append,List.filter_cons,ha,hb];simp[DT]
theorem Rm{s:eM}{atoms:List cR}:∀(rest kept:List Int)(c:eJ)(n:Nat),(kept++rest).Nodup→rest.length≤n→Eo s atoms n kept.length ⟨kept++rest,c⟩=wx s atoms rest ⟨kept++rest,c⟩
 | [],kept,c,n,_,_=>by
  cases n with
  | zero=>rfl
  | succ n=>rw[Eo,if_pos (by simp)];rfl
 | m::ms,kept,c,n,hd,hn=>by
  obtain⟨n,rfl⟩:∃k,n=k+1:=⟨n-1,by simp at hn;omega⟩;have hf:=acP hd;have e:(kept++m::ms).take kept.length++(kept++m::ms).drop (kept.length+1)=kept++ms:=(by rw[List.take_left,←List.drop_drop,List.drop_left,List.drop_one,List.tail_cons]);have hd2:(kept++ms).Nodup:=(by rw[←hf];exact hd.filter _);rw[Eo,wx];simp only[e,hf];rw[if_neg (by simp)];rcases aa (kept++ms=[]) with h1|h1;have h2:(kept++m::ms).length=1:=(by have h3:=congrArg List.length h1;simp only[aP,aY,List.length_nil] at h3⊢;omega);rw[if_pos h1,if_pos h2];have h2:¬ (kept++m::ms).length=1:=fun h=>h1 (by
   apply List.eq_nil_of_length_eq_zero
   simp only[aP,aY] at h⊢
   omega)
  rw[if_neg h1,if_neg h2];rcases aa ((eh s (cH (kept++ms) atoms)).code=1) with h2|h2;rw[if_pos h2,if_pos h2];exact Rm ms kept _ n hd2 (by simp at hn;omega);rw[if_neg h2,if_neg h2];have:=Rm (s:=s) (atoms:=atoms) ms (kept++[m]) c n (by simpa using hd) (by simp at hn;omega);simpa using this
theorem F7{n:Int}:∀{a b:List Int}{p q:List Int},a.Sublist b→(∀x∈p,x∈q)→rq q b n=true→rq p a n=true
 | [],_,_,_,_,_,_=>rfl
 | x::a,[],_,_,h,_,_=>by cases h
 | x::a,y::b,p,q,h,hp,hs=>by
  simp only[rq,ah,Bool.not_eq_true'] at hs;obtain⟨h1,h2,h3,h4⟩:=hs;cases h with
  | cons _ h=>exact F7 h (fun z hz=>by simp[hp z hz]) h4
  | cons_cons _ h=>
   have c:∀z,q.contains z=false→p.contains z=false:=fun z hz=>by
    cases hc:p.contains z with
    | false=>rfl
    | true=>rw[ov.2 (hp z (ov.1 hc))] at hz;cases hz
   have ih:=F7 (p:=p++[x]) (q:=q++[x]) h (fun z hz=>by
    rcases List.mem_append.1 hz with h5|h5
    ·simp[hp z h5]
    ·simp at h5;simp[h5]) h4
   simp only[rq,h1,c _ h2,c _ h3,ih];rfl
def oK(s:eM)(aS:List bU)(marks:List Int):nY×Bool:=
 if hH s aS&&gf marks ((fc aS).getD []).length then
  (if(eh s (cH marks ((fc aS).getD []))).code=1 then(wx s ((fc aS).getD []) marks ⟨marks,(eh s (cH marks ((fc aS).getD []))).case⟩,true) else(⟨[],th⟩,false))
 else(⟨[],th⟩,false)
theorem F0{s:eM}{atoms:List cR}:∀(ms:List Int)(l:nY),l.case=(eh s (cH l.marks atoms)).case→(wx s atoms ms l).case=(eh s (cH (wx s atoms ms l).marks atoms)).case
 | [],_,h=>h
 | m::ms,l,h=>by rw[wx];split;exact h;split;exact F0 ms _ rfl;exact F0 ms l h
theorem aay{s:eM}:(eh s []).code≠1:=fun h=>by
 have h1:=Uc h ⟨[]⟩;have h2:gn s []=true:=by
  cases hb:gn s [] with
  | true=>rfl
  | false=>rw[OB.2 hb] at h;cases h
 have h3:gC s=true:=by
  cases hs:gC s with
  | true=>rfl
  | false=>simp[gn,hs] at h2
 simp[jH,fR,h3,fS,xj] at h1
theorem TD{s:eM}{aS:List bU}{marks:List Int}(h:(oK s aS marks).2=true):yT s aS (oK s aS marks).1=true∧(oK s aS marks).1.marks.Sublist marks:=by
 unfold oK at h⊢;rw[show ∀l,yT s aS l=(hH s aS&&(decide (0<l.marks.length)&&(gf l.marks ((fc aS).getD []).length&&xk s (cH l.marks ((fc aS).getD [])) l.case))) from fun _=>rfl];generalize (fc aS).getD []=atoms at h⊢;split at h
 ·rename_i h0;rw[if_pos h0];split at h
  ·rename_i h1;rw[if_pos h1];simp only[ah] at h0;obtain⟨l0,e0⟩:∃l:nY,⟨marks,(eh s (cH marks atoms)).case⟩=l:=⟨_,rfl⟩;have em:l0.marks=marks:=(by rw[←e0]);have hs:=KE s atoms marks l0;have hn:=Q1 s atoms marks l0 (by rw[em];exact h1);have hc:=F0 (s:=s) (atoms:=atoms) marks l0 (by rw[em,←e0]);rw[e0];simp only;rw[em] at hs;generalize wx s atoms marks l0=r at hs hn hc⊢;refine⟨?_,hs⟩;have hp:0<r.marks.length:=List.length_pos_iff.2 fun h=>by rw[h] at hn;exact aay hn
   have hsel:gf r.marks atoms.length=true:=F7 hs (fun _ hx=>by cases hx) h0.2;rw[h0.1,hsel,hc,NR hn,decide_eq_true hp];rfl
  cases h
 cases h
def zO(b:List Int):Nat→List bU→Int→List bU×Int
 | 0,l,p=>(l,p)
 | n+1,l,p=>if l.length=0∨5≤l.length then(l,p) else
   if cF b p 2=0 then zO b n (if jB (tP (l.getD (cF b (p+1) l.length).toNat KB)) then l++[tP (l.getD (cF b (p+1) l.length).toNat KB)] else l) (p+2) else(l,p+1)
theorem Tz{f:bU}:∀{l:List bU},f∈l→nodes f≤eY l
 | x::l,h=>by simp only[eY];rcases List.mem_cons.1 h with rfl|h;omega;have:=Tz h;omega
theorem adp{l:List bU}{k:Nat}(h:k<l.length):l.getD k KB∈l:=by rw[List.getD_eq_getElem?_getD,List.getElem?_eq_getElem h];exact List.getElem_mem h
theorem QP{b:List Int}(hb:uq b):∀(n:Nat)(l:List bU)(p:Int),0≤p→p≤(zO b n l p).2∧(zO b n l p).2≤p+2*n∧eY (zO b n l p).1+2≤(eY l+2)*2 ^ n∧(zO b n l p).1.length≤l.length+n
 | 0,l,p,hp=>by simp[zO]
 | n+1,l,p,hp=>by rw[zO];have hpow:(eY l+2)*2 ^ (n+1)=2*((eY l+2)*2 ^ n):=(by rw[Nat.pow_succ,←Nat.mul_assoc,Nat.mul_comm]);have hone:eY l+2≤(eY l+2)*2 ^ n:=Nat.le_mul_of_pos_right _ (Nat.two_pow_pos n);split;simp only;omega;rename_i h0;split;obtain⟨k1,k2⟩:=Ro hb (p:=p+1) (n:=(l.length:Int)) oM oM;obtain⟨f,hf⟩:∃f,l.getD (cF b (p+1) l.length).toNat KB=f:=⟨_,rfl⟩;have kI:=adp (l:=l) (k:=(cF b (p+1) l.length).toNat) oM;rw[hf] at kI⊢;have hn:=Tz kI;have e:nodes (tP f)=1+nodes f:=(by simp[tP,nodes,eY]);split;have ih:=QP hb n (l++[tP f]) (p+2) oM;simp only[r6,eY,aP,fh,e] at ih;have hm:(eY l+(1+nodes f+0)+2)*2 ^ n≤(2*(eY l+2))*2 ^ n:=Nat.mul_le_mul_right _ oM;rw[Nat.mul_assoc] at hm;omega;have ih:=QP hb n l (p+2) oM;omega;simp only;omega
def xR(b:List Int)(p:Int):eM×List bU×Int:=((pz b p).1,zO b 2 (pz b p).2.1 (pz b p).2.2)
theorem QO{b:List Int}(hb:uq b){p:Int}(hp:0≤p):p≤(xR b p).2.2∧(xR b p).2.2≤p+2004∧eY (xR b p).2.1≤900∧(xR b p).2.1.length≤12:=by have h:=WS hb hp;have h2:=QP hb 2 (pz b p).2.1 (pz b p).2.2 oM;simp only[xR];omega
theorem Yr(b:List Int)(n:Nat)(p:Int):n≤(zM b n p).1.length:=by
 have key:∀(n:Nat)(p:Int),(gM (fun(_:Unit) q=>(decide (cF b q 2=0),q+1)) (List.replicate n ()) p).1.length=n:=by
  intro n;induction n with
  | zero=>intro p;rfl
  | succ n ih=>intro p;rw[List.replicate_succ];simp only[gM,aY,ih]
 have:=key n p;simp only[zM];split;simp only[aP,fh];omega;omega
def wZ(b:List Int):eM×List bU×List Int:=
 let r:=xR b 0
 let lf:=(ba [] r.2.1).length
 let v:=zM b (max 8 lf) r.2.2
 (r.1,r.2.1,if cF b v.2 16=0 then mw v.1 lf++[jL b (v.2+1) [0,1,9,-9223372036854775808]] else mw v.1 lf)
end Go.Mod
