/- Parts: MSubP, SubD, SubE, OwnK. -/
import Derived.Test.YtemooicddjimbaaGreatDoorTlG0FilC
import Derived.Deep.RegionLaw
set_option maxRecDepth 10000
set_option maxHeartbeats 8000000
namespace Go.Proofs.YtemooicddjimbaaGreatDoor
open Go.RowKit Go.Proofs.Tryz
def BS(f:Fi):Int:=f.qos% 4+f.handling% 4*16+pc f.noLocal 4+pc f.asPub 8
theorem Ly(f:Fi):0<=BS f/\BS f<64:=by
 have h:∀b n,0<=n->0<=pc b n/\pc b n<=n:=fun b n d=>by unfold pc;split<;>omega
 have a:=h f.noLocal 4 (by decide);have c:=h f.asPub 8 (by decide)
 unfold BS;omega
def fiL(k:Int)(f:Fi):List UInt8:=ls (cQ f.topic)++(if k=8 then [UInt8.ofNat (BS f).toNat]else [])
def cdL(l:List Int):List UInt8:=l.map fun c=>UInt8.ofNat c.toNat
def Bg(v:Int)(p:Pk):List UInt8:=Yk p.id.toNat 2++gP v p.kind p.props
def sbS(v:Int)(p:Pk):List UInt8:=Bg v p++p.filters.flatMap (fiL p.kind)++cdL p.codes
def sbB(v:Int)(p:Pk):ByteArray×Int:=if sbE v p=0 then(⟨(sbS v p).toArray⟩,0)else(⟨#[]⟩,sbE v p)
def iU(v:Int)(n:Nat):Bool:=decide (63<n) || (decide (v=4)&&decide (3<n))
def vB(t:ByteArray)(n:Nat):Fi:=⟨t,((n% 4:Nat):Int),decide (n/ 4% 2=1),decide (n/ 8% 2=1),((n/ 16% 4:Nat):Int)⟩
def opR(v:Int)(t:ByteArray)(a:Nat)(e:Int):Nat×Nat×Int:=
 (br t a e 1,(aH t a e 1).2.1,if iU v (br t a e 1)=true then fh (aH t a e 1).2.2 7 else(aH t a e 1).2.2)
def fiR(v k:Int)(t:ByteArray)(a:Nat):Fi×Nat×Int:=
 if k=8 then(vB (rtC t a 0).1 (opR v t (rtC t a 0).2.1 (rtC t a 0).2.2).1,(opR v t (rtC t a 0).2.1 (rtC t a 0).2.2).2.1,(opR v t (rtC t a 0).2.1 (rtC t a 0).2.2).2.2)
 else(⟨(rtC t a 0).1,0,false,false,0⟩,(rtC t a 0).2.1,(rtC t a 0).2.2)
def lsR(v k:Int)(t:ByteArray):Nat->Nat->Int->List Fi->List Int->List Fi×List Int×Nat×Int
 | 0,a,e,fi,cd=>(fi,cd,a,e)
 | n+1,a,e,fi,cd=>
   if e≠0\/t.size<=a then(fi,cd,a,e)
   else if jm k=true then lsR v k t n (fiR v k t a).2.1 (fiR v k t a).2.2 (fi++[(fiR v k t a).1]) cd
   else lsR v k t n (a+1) 0 fi (cd++[((br t a 0 1:Nat):Int)])
def lh(v k:Int)(s:ByteArray):List Pr×Nat×Int:=fv v k s (aH s 0 0 2).2.1 (aH s 0 0 2).2.2
def li(v k:Int)(s:ByteArray):List Fi×List Int×Nat×Int:=lsR v k s (s.size+1) (lh v k s).2.1 (lh v k s).2.2 [] []
def jf(k:Int)(i:Nat)(l:List Pr)(fi:List Fi)(cd:List Int):Pk:={pk0 with kind:=k,id:=(i:Int),props:=l,filters:=fi,codes:=cd}
def jj(v k:Int)(s:ByteArray):Pk:=jf k (br s 0 0 2) (lh v k s).1 (li v k s).1 (li v k s).2.1
def sbR(v k:Int)(s:ByteArray):Pk×Int:=
 if ir v k=false then(pk0,2)
 else if(li v k s).2.2.2≠0 then(pk0,(li v k s).2.2.2)
 else if sbE v (jj v k s)≠0 then(pk0,sbE v (jj v k s))else(jj v k s,0)
theorem MP{v k:Int}:∀ {l:List Fi},fiE v k l=0↔∀f∈l,gj f.topic=true/\nT v k f=true
 | []=>by simp[fiE]
 | f :: l=>by
   have ih:=MP (v:=v) (k:=k) (l:=l);unfold fiE;cases a:gj f.topic
   ·simp[a]
   ·cases b:nT v k f
    ·simp[a,b]
    ·simp[a,b,ih]
theorem MQ{v k:Int}:∀ {l:List Int},cdE v k l=0↔∀c∈l,xF v k c=true
 | []=>by simp[cdE]
 | c :: l=>by
   have ih:=MQ (v:=v) (k:=k) (l:=l);unfold cdE;cases a:xF v k c
   ·simp[a]
   ·simp[a,ih]
structure SbOk (v:Int) (p:Pk):Prop where
 known:ir v p.kind=true
 id1:1<=p.id
 id2:p.id<=65535
 old:v=4->p.props=[]
 have':lj v p=true
 same:p=sbQ v p
 props:(aM p.kind p.props).2=0
 filters:∀f∈p.filters,gj f.topic=true/\nT v p.kind f=true
 codes:∀c∈p.codes,xF v p.kind c=true
theorem NU{v:Int}{p:Pk}(h:sbE v p=0):SbOk v p:=by
 unfold sbE at h;cases a:xY v p
 ·rw[a,if_pos rfl]at h;exact absurd h (by decide)
 rw[a,Fl (by decide)]at h
 by_cases c:(aM p.kind p.props).2=0
 rotate_left
 ·rw[if_pos c]at h;exact absurd h c
 rw[Fl (fun x=>x c)]at h
 by_cases d:fiE v p.kind p.filters=0
 rotate_left
 ·rw[if_pos d]at h;exact absurd h d
 rw[Fl (fun x=>x d)]at h;unfold xY eH at a;simp only[eh,Bool.not_eq_true',Bool.or_eq_false_iff,cH,Ip,Kz]at a;obtain⟨e,⟨i,j,b⟩,f,g⟩:=a;refine⟨e,by omega,by omega,fun x=>?_,f,g,c,MP.1 d,MQ.1 h⟩;rcases b with b| b
 ·exact absurd x b
 ·exact aF (by omega)
theorem ue{v k:Int}(h:ir v k=true):(jm k=true/\(k=8\/k=10))\/(jm k=false/\(k=9\/k=11)):=by
 have b:=aR h
 by_cases a:k=8\/k=10
 ·exact .inl ⟨au a,a⟩
 ·exact .inr ⟨ah a,by omega⟩
theorem Iz{v:Int}{p:Pk}(h:p=sbQ v p)(ha:jm p.kind=true):p.codes=[]:=by
 rw[h];unfold sbQ;rw[if_pos ha];rfl
theorem Ib{v:Int}{p:Pk}(h:p=sbQ v p)(ha:jm p.kind=false):p.filters=[]:=by
 rw[h];unfold sbQ;rw[Fl (by rw[ha];decide)];split<;>rfl
theorem Nw{n:Int}(h:jZ n=true):n=0\/n=1\/n=2:=by
 unfold jZ at h;simp at h;omega
theorem Pb:∀(q h:Fin 3) (nl ap:Bool),vB ⟨#[]⟩ (BS ⟨⟨#[]⟩,((q.1:Nat):Int),nl,ap,((h.1:Nat):Int)⟩).toNat=⟨⟨#[]⟩,((q.1:Nat):Int),nl,ap,((h.1:Nat):Int)⟩:=by decide+kernel
theorem Pa:∀q:Fin 3,(BS ⟨⟨#[]⟩,((q.1:Nat):Int),false,false,0⟩).toNat<4:=by decide+kernel
theorem LC{n:Int}(h:jZ n=true):∃q:Fin 3,n=((q.1:Nat):Int):=by
 rcases Nw h with h| h| h
 ·exact⟨0,h⟩
 ·exact⟨1,h⟩
 ·exact⟨2,h⟩
theorem LO{t:ByteArray}{q h:Int}(hq:jZ q=true)(hh:jZ h=true)(nl ap:Bool):vB t (BS ⟨t,q,nl,ap,h⟩).toNat=⟨t,q,nl,ap,h⟩:=by
 obtain⟨q,rfl⟩:=LC hq;obtain⟨h,rfl⟩:=LC hh;have e:=Pb q h nl ap;have a:BS ⟨t,((q.1:Nat):Int),nl,ap,((h.1:Nat):Int)⟩=BS ⟨⟨#[]⟩,((q.1:Nat):Int),nl,ap,((h.1:Nat):Int)⟩:=rfl;rw[a];unfold vB at e⊢;rw[Fi.mk.injEq]at e⊢;exact⟨rfl,e.2⟩
theorem Oi{v:Int}{f:Fi}(h:nT v 8 f=true):iU v (BS f).toNat=false/\vB f.topic (BS f).toNat=f:=by
 unfold nT at h;rw[Fl (by decide)]at h;have g:=Ly f;obtain⟨t,q,k,i,j⟩:=f
 by_cases c:v=4
 ·rw[if_pos c]at h;simp only[eh]at h;obtain⟨a,b⟩:=h;have a:=aR a;rw[Fi.mk.injEq]at a;obtain⟨-,-,rfl,rfl,rfl⟩:=a;refine⟨?_,LO b rfl _ _⟩;obtain⟨q,rfl⟩:=LC b;have e:=Pa q;have d:BS ⟨t,((q.1:Nat):Int),false,false,0⟩=BS ⟨⟨#[]⟩,((q.1:Nat):Int),false,false,0⟩:=rfl;unfold iU;rw[d];simp only[Bool.or_eq_false_iff,Kz,Ip];exact⟨by omega,.inr (by omega)⟩
 ·rw[Fl c]at h;simp only[eh]at h;obtain⟨a,b,-⟩:=h;refine⟨?_,LO a b _ _⟩;unfold iU;rw[ah c,ah (by omega)];rfl
theorem Eh(t:ByteArray)(n:Nat)(h:n<64):BS (vB t n)=n:=by
 have:∀m:Fin 64,BS (vB t m.1)=m.1:=by
  intro m;have e:BS (vB t m.1)=BS (vB ⟨#[]⟩ m.1):=rfl;rw[e];clear e
  revert m
  decide+kernel
 exact this ⟨n,h⟩
theorem Fz{t:ByteArray}{a:Nat}{b:UInt8}{rest:List UInt8}(h:(ls t).drop a=b :: rest):a<t.size:=by
 have c:=congrArg List.length h;rw[bU,bM,aN]at c;omega
theorem tf{t:ByteArray}{a:Nat}{b:UInt8}{rest:List UInt8}(h:(ls t).drop a=b :: rest):br t a 0 1=b.toNat:=by
 have c:=Fz h;rw[show((1:Int))=((1:Nat):Int)from rfl,sc (k:=1) (x:=[b]) (rest:=rest) h rfl (by omega)];simp[YZ]
theorem OD{l r:List UInt8}{a:Nat}{b:UInt8}(h:l.drop a=b :: r):l.drop (a+1)=r:=by rw[<-et,h];rfl
theorem Li{n:Nat}(h:n<256):(UInt8.ofNat n).toNat=n:=by rw[UInt8.toNat_ofNat'];omega
theorem NC{v k:Int}{t:ByteArray}{a:Nat}{f:Fi}{rest:List UInt8}(ha:a<=t.size)(hk:k=8\/k=10)(hv:YF f.topic=true)(ho:nT v k f=true)(h:(ls t).drop a=fiL k f++rest):
  fiR v k t a=(f,a+(fiL k f).length,0)/\a+(fiL k f).length<=t.size/\(ls t).drop (a+(fiL k f).length)=rest:=by
 have l:=congrArg List.length h;rw[bU,List.length_append,aN]at l;have n:2<=(fiL k f).length:=by unfold fiL;rw[List.length_append,si,List.length_append,fM];omega
 refine⟨?_,by omega,by rw[<-et,h,GU rfl]⟩;unfold fiL at h;rw[si,List.append_assoc,List.append_assoc]at h;obtain⟨b,g,c⟩:=Jg ha hv h;obtain⟨r,j⟩:=Fq ha 0;have o:rtC t a 0=(f.topic,a+2+f.topic.size,0):=by rw[j (by rw[b]),b]
 have d:(fiL k f).length=2+f.topic.size+(if k=8 then 1 else 0):=by
  unfold fiL;rw[List.length_append,si,List.length_append,fM,aN];split<;>rfl
 rw[d];unfold fiR;rw[o];rcases hk with rfl| rfl
 ·rw[if_pos rfl,if_pos rfl];rw[if_pos rfl]at c;obtain⟨p,q⟩:=Oi ho;have s:=Ly f;have e:br t (a+2+f.topic.size) 0 1=(BS f).toNat:=by rw[tf c,Li (by omega)]
  have i:aH t (a+2+f.topic.size) 0 1=(t.extract (a+2+f.topic.size) (a+2+f.topic.size+1),a+2+f.topic.size+1,0):=dZ (k:=1) (Fz c);unfold opR;rw[e,i,p,Fl (by decide),q];simp only;rw[show a+2+f.topic.size+1=a+(2+f.topic.size+1) by omega]
 ·rw[Fl (by decide),Fl (by decide)];simp only;have m:f=⟨f.topic,0,false,false,0⟩:=by
   unfold nT at ho;rw[if_pos rfl]at ho;simp only[eh]at ho;have b:=aR ho.1;have g:=aR ho.2;rw[g]at b;exact b
  rw[<-m,show a+2+f.topic.size=a+(2+f.topic.size+0) by omega]
theorem Oo{v k:Int}{t:ByteArray}(hk:k=8\/k=10):∀(l:List Fi) (n a:Nat) (fi:List Fi),l.length<n->a<=t.size->(∀f∈l,YF f.topic=true/\nT v k f=true)->(ls t).drop a=l.flatMap (fiL k)->lsR v k t n a 0 fi []=(fi++l,[],t.size,0)
 | [],n+1,a,fi,_,ha,_,h=>by
   have hl:=congrArg List.length h;rw[bU,aN]at hl;simp at hl;unfold lsR;rw[if_pos (.inr (by omega)),show a=t.size by omega];simp
 | f :: l,n+1,a,fi,hn,ha,hf,h=>by
   rw[YS]at h;have b:=hf f (.head _);obtain⟨c,d,e⟩:=NC ha hk b.1 b.2 h;have j:2<=(fiL k f).length:=by unfold fiL;rw[List.length_append,si,List.length_append,fM];omega
   unfold lsR;rw[Fl (by omega),if_pos (show jm k=true from au hk),c];simp only;rw[Oo hk l n _ (fi++[f]) (by simp at hn;omega) d (fun g i=>hf g (.tail _ i)) e];simp
theorem Oq{v k:Int}{t:ByteArray}(hk:jm k=false):∀(l:List Int) (n a:Nat) (cd:List Int),l.length<n->a<=t.size->(∀c∈l,0<=c/\c<256)->(ls t).drop a=cdL l->lsR v k t n a 0 [] cd=([],cd++l,t.size,0)
 | [],n+1,a,cd,_,ha,_,h=>by
   have hl:=congrArg List.length h;rw[bU,aN]at hl;simp[cdL]at hl;unfold lsR;rw[if_pos (.inr (by omega)),show a=t.size by omega];simp
 | c :: l,n+1,a,cd,hn,ha,hf,h=>by
   have f:=hf c (.head _);have b:(ls t).drop a=UInt8.ofNat c.toNat :: cdL l:=h;have e:=Fz b;unfold lsR;rw[Fl (by omega),Fl (by rw[hk];decide),tf b,Li (by omega)];rw[Oq hk l n _ _ (by simp at hn;omega) (by omega) (fun g d=>hf g (.tail _ d)) (OD b)];rw[show((c.toNat:Nat):Int)=c by omega];simp
theorem JI{s:ByteArray}(h:gj s=true):YF s=true:=by
 unfold gj jY at h;simp only[eh]at h;exact h.1.2
theorem Lm{v k c:Int}(h:xF v k c=true):0<=c/\c<256:=by
 unfold xF at h;split at h
 ·unfold tq at h;simp at h;omega
 ·exact Yp h
theorem Lf(k:Int):∀l:List Fi,l.length<=(l.flatMap (fiL k)).length
 | []=>by simp
 | f :: l=>by
   have ih:=Lf k l;have a:2<=(fiL k f).length:=by unfold fiL;rw[List.length_append,si,List.length_append,fM];omega
   rw[YS,List.length_append,bM];omega
theorem Nf{v:Int}{p:Pk}(x:sbE v p=0)(hn:∀q∈p.props,q.n<4294967296){s:ByteArray}(hs:ls s=sbS v p):sbR v p.kind s=(p,0):=by
 have o:=NU x;have m:(ls s).drop 0=Yk p.id.toNat 2++(gP v p.kind p.props++(p.filters.flatMap (fiL p.kind)++cdL p.codes)):=by
  rw[Yl,hs];unfold sbS Bg;simp[List.append_assoc]
 have B:=congrArg List.length m;rw[bU,List.length_append,fM,aN]at B;have D:=o.id1;have E:=o.id2
 have t:br s 0 0 2=p.id.toNat:=by rw[show((2:Int))=((2:Nat):Int)from rfl,sc (k:=2) m (fM _ _) (by omega),H7 _ (by omega)]
 have y:aH s 0 0 2=(s.extract 0 2,2,0):=dZ (k:=2) (by omega);have A:(ls s).drop 2=gP v p.kind p.props++(p.filters.flatMap (fiL p.kind)++cdL p.codes):=by
  have:=GU (r:=gP v p.kind p.props++(p.filters.flatMap (fiL p.kind)++cdL p.codes)) (fM p.id.toNat 2);rw[<-m,Yl]at this;exact this
 obtain⟨z,u,e⟩:=JG (v:=v) (k:=p.kind) (l:=p.props) (by omega) o.old o.props hn A;have j:lh v p.kind s=(p.props,2+(gP v p.kind p.props).length,0):=by
  unfold lh;rw[y];exact z
 have i:li v p.kind s=(p.filters,p.codes,s.size,0):=by
  unfold li;rw[j];simp only;have C:=congrArg List.length e;rw[bU,List.length_append,aN]at C;rcases ue o.known with ⟨b,h⟩ | ⟨b,h⟩
  ·have d:=Iz o.same b;rw[d]at e⊢;rw[show cdL []=[]from rfl,YO]at e;have:=Lf p.kind p.filters;rw[Oo h p.filters _ _ [] (by omega) u (fun f w=>⟨JI (o.filters f w).1,(o.filters f w).2⟩) e];rfl
  ·have d:=Ib o.same b;rw[d]at e⊢;rw[List.flatMap_nil,dX]at e;have:(cdL p.codes).length=p.codes.length:=eD ..;rw[Oq b p.codes _ _ [] (by omega) u (fun c d=>Lm (o.codes c d)) e];rfl
 have g:jj v p.kind s=p:=by
  unfold jj;rw[t,j,i];unfold jf;simp only;rw[show((p.id.toNat:Nat):Int)=p.id by omega];rcases ue o.known with ⟨b,h⟩ | ⟨b,h⟩
  ·have d:=Iz o.same b;have a:=o.same;unfold sbQ at a;rw[if_pos b]at a;rw[d];exact a.symm
  ·have d:=Ib o.same b;have a:=o.same;unfold sbQ at a;rw[Fl (by rw[b];decide)]at a;rw[d]
   by_cases hs:pP v p.kind=true
   ·rw[if_pos hs]at a;have:p.codes=[]:=by rw[a];rfl
    rw[this];exact a.symm
   ·rw[Fl hs]at a;exact a.symm
 unfold sbR;rw[Fl (by rw[o.known];decide),i,g,x];simp
theorem vA{v k:Int}{t:ByteArray}{a:Nat}(hk:k=8\/k=10)(ha:a<=t.size)(h:(fiR v k t a).2.2=0):
  a<(fiR v k t a).2.1/\(fiR v k t a).2.1<=t.size/\(ls t).drop a=fiL k (fiR v k t a).1++(ls t).drop (fiR v k t a).2.1:=by
 have m:∀(d:(rtC t a 0).2.2=0),a+2<=(rtC t a 0).2.1/\(rtC t a 0).2.1<=t.size/\(ls t).drop a=ls (cQ (rtC t a 0).1)++(ls t).drop (rtC t a 0).2.1:=by
  intro d;obtain⟨q,r⟩:=Fq ha 0;rw[q]at d;rw[r d];obtain⟨-,f,-,-,l⟩:=sC d;rw[si,List.append_assoc];refine⟨?_,f,l⟩;have u:=congrArg List.length l;rw[bU,List.length_append,List.length_append,fM,bU,aN,aN]at u;omega
 unfold fiR at h⊢;rcases hk with rfl| rfl
 ·rw[if_pos rfl]at h⊢;simp only at h⊢;have c:iU v (br t (rtC t a 0).2.1 (rtC t a 0).2.2 1)=false:=by
   cases c:iU v (br t (rtC t a 0).2.1 (rtC t a 0).2.2 1)
   ·rfl
   ·unfold opR at h;rw[c,if_pos rfl]at h;exact(gW h (by decide)).elim
  unfold opR at h⊢;rw[c,Fl (by decide)]at h;simp only at h⊢;obtain⟨i,f,s⟩:=i7 (k:=1) h;obtain⟨w,p,g⟩:=m i;rw[i]at c⊢;have j:aH t (rtC t a 0).2.1 0 1=_:=s;rw[j];simp only;refine⟨by omega,f,?_⟩;obtain⟨b,e⟩:∃b,(ls t).drop (rtC t a 0).2.1=b :: (ls t).drop ((rtC t a 0).2.1+1):=⟨_,bQ (by rw[aN];omega)⟩;have o:=tf e;have n:b.toNat<64:=by
   rw[o]at c;unfold iU at c;simp only[Bool.or_eq_false_iff,Ip]at c;omega
  rw[g,e,o];unfold fiL;rw[if_pos rfl,Eh _ _ n,dN,UInt8.ofNat_toNat,List.append_assoc];rfl
 ·rw[Fl (by decide)]at h⊢;simp only at h⊢;obtain⟨w,p,g⟩:=m h;refine⟨by omega,p,?_⟩;unfold fiL;rw[Fl (by decide),YO];exact g
theorem qo{v k:Int}{t:ByteArray}(hk:ir v k=true):∀(n a:Nat) (e:Int) (fi:List Fi) (cd:List Int),t.size- a<n->a<=t.size->(lsR v k t n a e fi cd).2.2.2=0->
  e=0/\∃l m,(lsR v k t n a e fi cd).1=fi++l/\(lsR v k t n a e fi cd).2.1=cd++m/\(ls t).drop a=l.flatMap (fiL k)++cdL m/\(jm k=true->m=[])/\(jm k=false->l=[])
 | n+1,a,e,fi,cd,hn,ha,h=>by
   unfold lsR at h⊢
   by_cases hc:e≠0\/t.size<=a
   ·rw[if_pos hc]at h⊢;simp only at h⊢;refine⟨h,[],[],by simp,by simp,?_,fun _=>rfl,fun _=>rfl⟩;have:t.size<=a:=hc.resolve_left (fun x=>x h);rw[gF (by rw[aN];omega)];rfl
   ·rw[Fl hc]at h⊢;have u:e=0:=aU.1 fun x=>hc (.inl x);have y:a<t.size:=Nat.lt_of_not_le fun x=>hc (.inr x);refine⟨u,?_⟩;rcases ue hk with ⟨c,f⟩ | ⟨c,f⟩
    ·rw[if_pos c]at h⊢
     by_cases o:(fiR v k t a).2.2=0
     ·obtain⟨f1,r,s⟩:=vA f ha o;obtain⟨-,l,m,g,i,j,p,q⟩:=qo hk n _ _ _ _ (by omega) r h;refine⟨(fiR v k t a).1 :: l,m,by rw[g];simp,i,?_,p,fun x=>by rw[c]at x;cases x⟩;rw[s,j,YS,List.append_assoc]
     ·exfalso;cases n with
      | zero=>omega
      | succ n=>
        unfold lsR at h;rw[if_pos (.inl o)]at h;exact o h
    ·rw[Fl (by rw[c];decide)]at h⊢;obtain⟨-,l,m,g,i,j,p,q⟩:=qo hk n _ _ _ _ (by omega) (by omega) h;obtain⟨b,d⟩:∃b,(ls t).drop a=b :: (ls t).drop (a+1):=⟨_,bQ (by rw[aN];omega)⟩;have w:=q c;subst w;refine⟨[],((br t a 0 1:Nat):Int) :: m,g,by rw[i];simp,?_,fun x=>(by rw[c]at x;cases x),fun _=>rfl⟩;rw[d,j,tf d];simp[cdL]
theorem Bf{v k:Int}{s:ByteArray}{q:Pk}(h:sbR v k s=(q,0)):sbE v q=0/\sbS v q=ls s/\q.kind=k:=by
 unfold sbR at h;cases e:ir v k
 ·rw[e,if_pos rfl]at h;injection h with _ h;exact absurd h (by decide)
 rw[e,Fl (by decide)]at h
 by_cases b:(li v k s).2.2.2=0
 rotate_left
 ·rw[if_pos b]at h;injection h with _ h;exact absurd h b
 rw[Fl (fun x=>x b)]at h
 by_cases c:sbE v (jj v k s)=0
 rotate_left
 ·rw[if_pos c]at h;injection h with _ h;exact absurd h c
 rw[Fl (fun x=>x c)]at h
 injection h with h _
 subst h;refine⟨c,?_,rfl⟩;have i:(lh v k s).2.1<=s.size:=by
  have w:=dy (t:=s) (a:=0) (ag _) 0 2;unfold lh;exact Ec _ _ _ w
 unfold li at b;obtain⟨o,l,m,p,r,u,A,B⟩:=qo e _ _ _ _ _ (by omega) i b;have d:=o;unfold lh at d;obtain⟨y,C,D,E,f⟩:=yv (dy (t:=s) (a:=0) (ag _) 0 2) d;obtain⟨F,G,z⟩:=i7 (k:=2) y;have n:aH s 0 0 2=(s.extract 0 2,2,0):=z;have g:=lY (t:=s) (a:=0) (by omega);rw[Yl]at g;unfold sbS Bg jj jf;simp only;rw[List.append_assoc,List.append_assoc,dN,g]
 congr 1
 have j:fv v k s (aH s 0 0 2).2.1 (aH s 0 0 2).2.2=lh v k s:=rfl;rw[j]at f;rw[show(aH s 0 0 2).2.1=2 by rw[n]]at f;rw[show(0+2:Nat)=2 from rfl,f]
 congr 1
 unfold li;rw[p,r,dX,dX,u]
section
attribute [local go_sem ↓] bD bF bH bI bu
attribute [local go_sem] bc aD bh bg bK bJ bd aY be aO ax cI dC dB dt dj di dA dr dp dn bW co YK bZ YM cz cy cw cu YL YP YB bS bP bR
theorem Wi(q:Int):bits BinOp.and IntKind.i64 q 3=q% 4:=by
 show IntKind.i64.wrap ((BitVec.ofInt 64 q&&& BitVec.ofInt 64 3).toNat:Int)=_;rw[BitVec.toNat_and,show(BitVec.ofInt 64 3).toNat=2^ 2- 1 from rfl,kC,BitVec.toNat_ofInt,aQ];omega
theorem VT:∀a b:Fin 4,bits BinOp.or IntKind.i64 ((a.1:Nat):Int) (((b.1:Nat):Int)*16)=((a.1:Nat):Int)+((b.1:Nat):Int)*16:=by decide+kernel
theorem VU:∀a b:Fin 4,bits BinOp.or IntKind.i64 (((a.1:Nat):Int)+((b.1:Nat):Int)*16) 4=((a.1:Nat):Int)+((b.1:Nat):Int)*16+4:=by decide+kernel
theorem VE:∀a b:Fin 4,bits BinOp.or IntKind.i64 (((a.1:Nat):Int)+((b.1:Nat):Int)*16) 8=((a.1:Nat):Int)+((b.1:Nat):Int)*16+8:=by decide+kernel
theorem VW:∀a b:Fin 4,bits BinOp.or IntKind.i64 (((a.1:Nat):Int)+((b.1:Nat):Int)*16+4) 8=((a.1:Nat):Int)+((b.1:Nat):Int)*16+12:=by decide+kernel
theorem VZ(f:Fi):∃A B:Int,f.qos% 4=A/\f.handling% 4=B/\bits BinOp.or IntKind.i64 A (B*16)=A+B*16/\bits BinOp.or IntKind.i64 (A+B*16) 4=A+B*16+4/\bits BinOp.or IntKind.i64 (A+B*16) 8=A+B*16+8/\
  bits BinOp.or IntKind.i64 (A+B*16+4) 8=A+B*16+12:=by
 obtain⟨a,c⟩:∃a:Fin 4,f.qos% 4=((a.1:Nat):Int):=⟨⟨(f.qos% 4).toNat,by omega⟩,by simp only;omega⟩;obtain⟨b,d⟩:∃b:Fin 4,f.handling% 4=((b.1:Nat):Int):=⟨⟨(f.handling% 4).toNat,by omega⟩,by simp only;omega⟩;exact⟨_,_,c,d,VT a b,VU a b,VE a b,VW a b⟩
theorem VF(f:Fi)(w:World):
  Calls prog 168 #[.agg #[.string f.topic,.int .i64 f.qos,.bool f.noLocal,.bool f.asPub,.int .i64 f.handling]] w fun e w'=>e= .returned (.int .i64 (BS f))/\Below w.heap.size w w':=by
 obtain⟨A,B,c,d,m,n,o,p⟩:=VZ f;have i:Hid (BS f=A+B*16+pc f.noLocal 4+pc f.asPub 8):=aa (by unfold BS;rw[c,d]);have j:=Wi f.qos;have k:=Wi f.handling;have C:0<=B/\B<4:=by omega
 rw[c]at j;rw[d]at k;have s:=aa m;have u:=aa n;have v:=aa o;have x:=aa p
 clear c d m n o p;obtain⟨t,q,g,b,l⟩:=f;simp only at i j k⊢;generalize BS ⟨t,q,g,b,l⟩=R at*;have h:=aa ((aq w.heap.size w).alloc (ac _) (.cells #[.string t,.int .i64 q,.bool g,.bool b,.int .i64 l] 90));cases g<;>cases b
 all_goals
  go_enter func168,ntmps168;go_wp2;go_ret;refine⟨?_,h.o⟩;have e:=i.o;simp only[pc,if_true,if_false,Bool.false_eq_true,Int.add_zero]at e;rw[e];have a:=s.o;have r:=u.o;have y:=v.o;have z:=x.o
  show Ending.returned (Value.int .i64 _)=_
  first
  | rw[a,r,z];congr 2;omega
  | rw[a,r]
  | rw[a,y]
  | rw[a]
theorem NT{v:Int}{p:Pk}(k:Nat):(Bg v p++(p.filters.take k).flatMap (fiL p.kind)).length<=(sbS v p).length:=by
 unfold sbS;have:(p.filters.flatMap (fiL p.kind)).length=((p.filters.take k).flatMap (fiL p.kind)).length+((p.filters.drop k).flatMap (fiL p.kind)).length:=by
  rw[<-List.length_append,<-fR,cg]
 rw[List.length_append,List.length_append,List.length_append];omega
theorem Nd{v:Int}{p:Pk}(k:Nat):(Bg v p++p.filters.flatMap (fiL p.kind)++cdL (p.codes.take k)).length<=(sbS v p).length:=by
 unfold sbS cdL;simp only[List.length_append,eD,cY];omega
theorem PK{k:Int}{l:List Fi}{i:Nat}{f:Fi}(hf:l[i]? =some f):(l.take (i+1)).flatMap (fiL k)=(l.take i).flatMap (fiL k)++fiL k f:=by
 rw[List.take_add_one,hf,fR];simp
theorem PN{l:List Int}{i:Nat}{c:Int}(hc:l[i]? =some c):cdL (l.take (i+1))=cdL (l.take i)++[UInt8.ofNat c.toNat]:=by
 unfold cdL;rw[List.take_add_one,hc,Ii];simp
theorem MR{c:Int}(h:0<=c/\c<256):∃b:UInt8,UInt8.ofNat c.toNat=b/\c=(b.toNat:Int):=⟨_,rfl,by rw[UInt8.toNat_ofNat'];omega⟩
theorem vV{w w':World}{r:Option Nat}{g:Nat}{t:TypeId}{cs:Array Value}(hg:w.grownBy w' r)(h:Bk w g t cs)(hne:r≠some g):Bk w' g t cs:=
 (hg.block g h.lt (by first| exact hne| exact hne.symm)).trans h
theorem Vp(v:Int)(p:Pk)(h:Hs)(w:World)(ip:PkIn w w.heap.size p h)(ok:PkOk p)(hz:(sbS v p).length<=140737488351232):
  Calls prog 102 #[.int .i64 v,pkV p h] w fun e w'=>e= .returned (.tuple #[.string (sbB v p).1,.int .i64 (sbB v p).2])/\Below w.heap.size w w':=by
 have U:=aa ok;have HZ:=aa hz;have S0:=aa ((St.start w).push ip);have HE:Hid (sbB v p=if sbE v p=0 then(⟨(sbS v p).toArray⟩,0)else(⟨#[]⟩,sbE v p)):=aa rfl;have l0:=S0.o.ld 0 rfl;clear ip ok hz;go_enter func102,ntmps102
 go_wp2_with fail
 refine Yg (lg v p h _ (S0.o.into 0 rfl) U.o) fun w1 x=>?_;have S1:=aa (S0.o.below x);clear x l0
 by_cases J:sbE v p=0
 rotate_left
 ·have HX:Hid (sbB v p=(⟨#[]⟩,sbE v p)):=aa (by rw[HE.o,Fl J]);have e0:(sbE v p !=0)=true:=aA.2 J;clear J;go_wp2;go_ret2;exact⟨by rw[HX.o];rfl,S1.o.kept⟩
 have HX:Hid (sbB v p=(⟨(sbS v p).toArray⟩,0)):=aa (by rw[HE.o,if_pos J]);have G:=aa (NU J);have e0:(sbE v p !=0)=false:=by rw[J];rfl
 clear J HE;have k4:=(S1.o.cell 0 rfl 4).trans (dj _ _);obtain⟨n,hn,bq⟩:∃n:Nat,Hid (p.id.toNat=n)/\IntKind.u64.wrap p.id=(n:Int):=⟨_,aa rfl,by rw[iZ];have:=G.o.id1;have:=G.o.id2;omega⟩
 go_wp2_with fail
 refine Yg (pD n 2 _ (by have:=hn.out;have:=G.o.id2;have:=G.o.id1;omega) (by omega) (by omega)) fun l x=>?_;have V:=aa (S1.o.below x);clear x k4 bq e0;obtain⟨v3,w3,aS,aj,af⟩:=V7 (P:=prog) l 9 77 5 ⟨(Yk n 2).toArray⟩ underlying9 underlying77 underlying5;rw[jo]at aj;have O3:=aa aj;have B3:=aa af
 have S3:=aa (V.o.below af);clear aj af;have k0:=(S3.o.cell 0 rfl 0).trans (cI _ _);have aX:=(S3.o.cell 0 rfl 24).trans (bR _ _);have aP:Hid (Bg v p=Yk n 2++gP v p.kind p.props):=aa (by unfold Bg;rw[hn.out])
 go_upto_if 28 with fail
 go_cut [7] (fun a wx=>OB wx l.heap.size a (Bg v p)/\Below l.heap.size l wx)
 case first=>
  by_cases h5:v=5
  ·have e5:(v==5)=true:=aK.2 h5;have HT:Hid (Bg v p=Yk n 2++(aM p.kind p.props).1):=aa (by rw[aP.o];unfold gP;rw[Fl (by omega)]);clear h5
   go_wp2_with fail
   refine Yg (UB p.kind p.props _ rfl U.o.props h.props.a h.props.c _ (S3.o.into 0 rfl).props U.o.len.2.2.2) fun w4 x=>?_;have O4:=aa (O3.o.below x);have X:=aa (Yf B3.o x);have ai:(aM p.kind p.props).1.length<=140737488351232:=by
    have h1:=NT (v:=v) (p:=p) 0;have h2:=HZ.o;rw[List.length_append,HT.o,List.length_append]at h1;omega
   have a1:=aa ai;clear x ai k0 aX
   go_wp2_with (at_builtin;refine UF _ rfl (.tmp 37) (.tmp 38) 77 9 rfl l.heap.size 5 underlying77 underlying9 ku v3 _ rfl O4.o _ rfl (by rw[fM,<-aN,jo];have:=a1.o;omega) X.o.size ?_;intro v' w5 d q)
   have R:OB w5 l.heap.size v' (Bg v p)/\Below l.heap.size l w5:=by
    refine⟨?_,kz X.o q X.o.size (fun g r=>(O4.o.block g r).1)⟩;rw[HT.o];rw[jo]at d;exact d
   clear d q;go_wp2
   go_meet
   case rel=>exact R
  ·have e5:(v==5)=false:=ar.2 h5;have HT:Hid (Bg v p=Yk n 2):=aa (by
    have:=aR (show decide ((v=4\/v=5)/\8<=p.kind/\p.kind<=11)=true from G.o.known);rw[aP.o];unfold gP;rw[if_pos (by omega),YO])
   clear h5;go_wp2
   go_meet
   case rel=>exact⟨by rw[HT.o];exact O3.o,B3.o⟩
 obtain⟨aT,ag⟩:=hcut;have O4:=aa aT;have X:=aa ag
 have S4:=aa (V.o.below ag);clear aT ag k0 aX aS;have bd:=aa U.o.len.2.2.1;have bc:=aa U.o.len.2.1;obtain⟨N,hN⟩:∃n,p.filters.length=n:=⟨_,rfl⟩;obtain⟨M,hM⟩:∃m,p.codes.length=m:=⟨_,rfl⟩;have aW:=S4.o.cell 0 rfl 23;rw[bP,hN]at aW;have HN:=aa hN;have HM:=aa hM
 have bL:N<=4611686018427387904:=by have:=bd.o;omega
 have bK:M<=4611686018427387904:=by have:=bc.o;omega
 clear hN hM;go_wp2
 go_loopw [7,43] (fun o i wr=>∃k:Nat,k<=N/\i= .int .i64 k/\OB wr l.heap.size o (Bg v p++(p.filters.take k).flatMap (fiL p.kind))/\Below l.heap.size l wr) (fun _ i _=>N- (intOf i).toNat)
 case atStart=>exact⟨0,by omega,rfl,by rw[GZ,List.flatMap_nil,YO];exact O4.o,X.o⟩
 case round=>
  obtain⟨k,hk,rfl,d,I⟩:=hrel;have S5:=aa (V.o.below I);have O5:=aa d;have B5:=aa I
  clear d I aW;have kk:=(S5.o.cell 0 rfl 0).trans (cI _ _);have ao:=S5.o.cell 0 rfl 22;rw[bS,HM.o]at ao
  by_cases bo:k<N
  ·have E:k<p.filters.length:=by rw[HN.o];exact bo
   obtain⟨b,o,hA,x,c0,c1,c2,c3,c4⟩:=((S5.o.into 0 rfl).filters).atF E;have aV:=U.o.topics p.filters[k] (iY E);have aU:=G.o.filters p.filters[k] (iY E);have t:=aa (PK (k:=p.kind) (List.getElem?_eq_getElem E));have u:=aa (NT (v:=v) (p:=p) (k+1));generalize p.filters[k]=f at*;have bg:=aa aV;have HV:=aa (JI aU.1);have bh:Hid (IM f.topic=(cQ f.topic,0)):=aa (by unfold IM;rw[if_pos HV.o]);rw[t.o,<-List.append_assoc]at u;have Y:Hid ((Bg v p++(p.filters.take k).flatMap (fiL p.kind)).length+(fiL p.kind f).length<=140737488351232):=aa (by
    have:=u.o;have:=HZ.o;rw[List.length_append]at*;rw[List.length_append]at*;omega)
   have b1:(0:Int)<=(k:Int):=by omega
   have b2:(k:Int)<(N:Int):=by omega
   clear E aV aU;obtain⟨L,H⟩:∃L,Bg v p++(p.filters.take k).flatMap (fiL p.kind)=L:=⟨_,rfl⟩;rw[H]at Y O5;have O:=aa H;clear H u;have S6:=aa (S5.o.alloc (.cells #[.string f.topic,.int .i64 f.qos,.bool f.noLocal,.bool f.asPub,.int .i64 f.handling] 90));have B6:=aa (B5.o.alloc B5.o.size (.cells #[.string f.topic,.int .i64 f.qos,.bool f.noLocal,.bool f.asPub,.int .i64 f.handling] 90));have O6:=aa (O5.o.alloc (.cells #[.string f.topic,.int .i64 f.qos,.bool f.noLocal,.bool f.asPub,.int .i64 f.handling] 90));have K6:=aa (Bk.fresh wr 90 #[.string f.topic,.int .i64 f.qos,.bool f.noLocal,.bool f.asPub,.int .i64 f.handling])
   go_wp2_with fail
   refine Yg (UW f.topic _ (by have:=bg.o;omega)) fun w6 D=>?_;have S7:=aa (S6.o.below D);have s:=aa (Yf B6.o D);have C:=aa (O6.o.below D);have K7:=aa (Yh K6.o D);clear D kk ao c0 c1 c2 c3 c4;rw[bh.o];simp only;have aO:Hid (L.length+(cQ f.topic).size<=140737488351232):=aa (by
    have:=Y.o;unfold fiL at this;rw[List.length_append,aN]at this;omega)
   have bf:Hid (u7.ownBlock≠some wr.heap.size):=aa (by
    obtain⟨g,cap,hv,h1,h2,-⟩:=O5.o;rw[hv];intro e;have:g=wr.heap.size:=Option.some.inj e;omega)
   by_cases W:p.kind=8
   ·have e8:(p.kind==8)=true:=aK.2 W;obtain⟨y,hy,B⟩:=MR (c:=BS f) (by have:=Ly f;omega);have K:Hid (fiL p.kind f=ls (cQ f.topic)++[y]):=aa (by unfold fiL;rw[if_pos W,hy]);have br:IntKind.u8.wrap (y.toNat:Int)=(y.toNat:Int):=by have:=y.toNat_lt;rw[GM];omega
    have aQ:=aa B;clear W hy B
    go_wp2_with (at_builtin;refine UF _ rfl (.tmp 53) (.tmp 54) 77 9 rfl l.heap.size 5 underlying77 underlying9 ku u7 _ rfl C.o _ rfl (by have:=aO.o;omega) s.o.size ?_;intro v' w8 d q;have S:=aa (kz s.o q s.o.size (fun g r=>(C.o.block g r).1));have O8:=aa d;have S8:=aa (V.o.below S.o);have Z:Hid (Bk w8 wr.heap.size 90 #[.string f.topic,.int .i64 f.qos,.bool f.noLocal,.bool f.asPub,.int .i64 f.handling]):=aa (vV q K7.o bf.o);clear d q;have kk:=(S8.o.cell 0 rfl 0).trans (cI _ _);have c0:=Z.o.cell 0;have c1:=Z.o.cell 1;have c2:=Z.o.cell 2;have c3:=Z.o.cell 3;have c4:=Z.o.cell 4;simp only[ay,aE,aB]at c0 c1 c2 c3 c4)
    refine Yg (VF f _) fun w9 Q=>?_;have S9:=aa (S8.o.below Q);have T:=aa (Yf S.o Q);have O9:=aa (O8.o.below Q);clear Q kk c0 c1 c2 c3 c4;rw[aQ.o]
    go_wp2_with (at_builtin;refine UN _ rfl (.tmp 59) (.tmp 63) 77 rfl l.heap.size 5 underlying77 ku v' _ rfl (O9.o.alloc _) _ _ 1 [y] rfl (Rd.lit _ _ _ rfl (ed _) rfl) (by have:=Y.o;rw[K.o,List.length_append]at this;rw[List.length_append];omega) (T.o.alloc T.o.size _).size ?_;intro aq F d q)
    have R:OB F l.heap.size aq (L++fiL p.kind f)/\Below l.heap.size l F:=by
     refine⟨?_,kz (T.o.alloc T.o.size _) q (T.o.alloc T.o.size _).size (fun g r=>(O9.o.block g r).1)⟩;rw[K.o,<-List.append_assoc];exact d
    have RR:=aa R;clear d q R;go_wp2
    go_roundw
    case rel=>
     simp only[hA]
     (repeat apply Exists.intro)
     refine⟨?_,rfl⟩;exact⟨k+1,by omega,by go_num,by rw[t.o,<-List.append_assoc,O.o];exact RR.o.1,RR.o.2⟩
    case measure=>simp[intOf];omega
   ·have e8:(p.kind==8)=false:=ar.2 W;have K:Hid (fiL p.kind f=ls (cQ f.topic)):=aa (by unfold fiL;rw[Fl W,YO]);clear W
    go_wp2_with (at_builtin;refine UF _ rfl (.tmp 53) (.tmp 54) 77 9 rfl l.heap.size 5 underlying77 underlying9 ku u7 _ rfl C.o _ rfl (by have:=aO.o;omega) s.o.size ?_;intro v' w8 d q;have S:=aa (kz s.o q s.o.size (fun g r=>(C.o.block g r).1));have O8:=aa d;have S8:=aa (V.o.below S.o);clear d q;have kk:=(S8.o.cell 0 rfl 0).trans (cI _ _))
    go_roundw
    case rel=>
     simp only[hA]
     (repeat apply Exists.intro)
     refine⟨?_,rfl⟩;exact⟨k+1,by omega,by go_num,by rw[t.o,<-List.append_assoc,O.o,K.o];exact O8.o,S.o⟩
    case measure=>simp[intOf];omega
  ·obtain rfl:k=N:=by omega
   have O6:Hid (OB wr l.heap.size u7 (Bg v p++p.filters.flatMap (fiL p.kind))):=aa (by
    have:=O5.o;rw[<-HN.o,GK]at this;exact this)
   clear O5;go_wp2
   go_loopw [7,69] (fun o i wq=>∃j:Nat,j<=M/\i= .int .i64 j/\OB wq l.heap.size o (Bg v p++p.filters.flatMap (fiL p.kind)++cdL (p.codes.take j))/\Below l.heap.size l wq) (fun _ i _=>M- (intOf i).toNat)
   case atStart=>exact⟨0,by omega,rfl,by rw[GZ];show OB _ _ _ (_++[]);rw[YO];exact O6.o,B5.o⟩
   case round=>
    obtain⟨j,hj,rfl,d,ah⟩:=hrel;have S6:=aa (V.o.below ah);have C:=aa d;have s:=aa ah
    clear d ah kk ao
    by_cases ba:j<M
    ·have E:j<p.codes.length:=by rw[HM.o];exact ba
     obtain⟨b,o,z,hA,x,an,hc⟩:=((S6.o.into 0 rfl).codes).atI E;have ae:=Lm (G.o.codes z (iL an));have t:=aa (PN an);have u:=aa (Nd (v:=v) (p:=p) (j+1));obtain⟨y,hy,B⟩:=MR ae;rw[hy]at t;have aQ:=aa B;rw[t.o,<-List.append_assoc]at u;have br:IntKind.u8.wrap (y.toNat:Int)=(y.toNat:Int):=by have:=y.toNat_lt;rw[GM];omega
     rw[B]at hc;have b1:(0:Int)<=(j:Int):=by omega
     have b2:(j:Int)<(M:Int):=by omega
     clear E an ae hy B;obtain⟨L,H⟩:∃L,Bg v p++p.filters.flatMap (fiL p.kind)++cdL (p.codes.take j)=L:=⟨_,rfl⟩;rw[H]at u C;have O:=aa H;clear H
     go_wp2_with (at_builtin;refine UN _ rfl (.tmp 73) (.tmp 76) 77 rfl l.heap.size 5 underlying77 ku u7 _ rfl (C.o.alloc _) _ _ 1 [y] rfl (Rd.lit _ _ _ rfl (ed _) rfl) (by have:=u.o;have:=HZ.o;rw[List.length_append]at*;omega) (s.o.alloc s.o.size _).size ?_;intro aq F d q)
     have R:OB F l.heap.size aq (L++[y])/\Below l.heap.size l F:=
      ⟨d,kz (s.o.alloc s.o.size _) q (s.o.alloc s.o.size _).size (fun g r=>(C.o.block g r).1)⟩
     have RR:=aa R;clear d q R;go_wp2
     go_roundw
     case rel=>
      simp only[hA]
      (repeat apply Exists.intro)
      refine⟨?_,rfl⟩;exact⟨j+1,by omega,by go_num,by rw[t.o,<-List.append_assoc,O.o];exact RR.o.1,RR.o.2⟩
     case measure=>simp[intOf];omega
    ·obtain rfl:j=M:=by omega
     have O8:Hid (OB wr l.heap.size u7 (sbS v p)):=aa (by
      have:=C.o;rw[<-HM.o,GK]at this;exact this)
     obtain⟨A,c,rfl,ak⟩:=O8.o.rd;have aS:=ni (P:=prog) 77 9 5 underlying77 underlying5 underlying9 c ak;have bJ:=aa ak;clear ak;go_wp2;go_ret2;exact⟨by rw[HX.o];rfl,S6.o.kept⟩
theorem Fy:∀n:Fin 256,(bits BinOp.andNot IntKind.i64 (n.1:Int) 63 !=0)=decide (63<n.1)/\(bits BinOp.andNot IntKind.i64 (n.1:Int) 3 !=0)=decide (3<n.1)/\
  bits BinOp.and IntKind.i64 (n.1:Int) 3=((n.1% 4:Nat):Int)/\bits BinOp.and IntKind.i64 ((n.1:Int) / 16) 3=((n.1/ 16% 4:Nat):Int)/\
  (bits BinOp.and IntKind.i64 (n.1:Int) 4 !=0)=decide (n.1/ 4% 2=1)/\(bits BinOp.and IntKind.i64 (n.1:Int) 8 !=0)=decide (n.1/ 8% 2=1):=by decide+kernel
def dI(f:Fi):Array Value:=#[.string f.topic,.int .i64 f.qos,.bool f.noLocal,.bool f.asPub,.int .i64 f.handling]
theorem Cur.four{w:World}{g a gf:Nat}{t:ByteArray}{e:Int}(h:Cur w g t a e)(hne:gf≠g)(x1 x4 x2 x3:Value):Cur ((((w.setCell ⟨gf,1,none⟩ x1).setCell ⟨gf,4,none⟩ x4).setCell ⟨gf,2,none⟩ x2).setCell ⟨gf,3,none⟩ x3) g t a e:=
 ⟨(((h.1.other (fun e=>hne e.symm) _).other (fun e=>hne e.symm) _).other (fun e=>hne e.symm) _).other (fun e=>hne e.symm) _,h.2⟩
theorem lZ(w:World)(g gf:Nat)(x1 x4 x2 x3:Value):Mods (two g gf) w ((((w.setCell ⟨gf,1,none⟩ x1).setCell ⟨gf,4,none⟩ x4).setCell ⟨gf,2,none⟩ x2).setCell ⟨gf,3,none⟩ x3):=
 ((((Mods.refl w).set gf 1 (.inl (.inr rfl)) _).set gf 4 (.inl (.inr rfl)) _).set gf 2 (.inl (.inr rfl)) _).set gf 3 (.inl (.inr rfl)) _
theorem l8{w:World}{gf:Nat}{tp:ByteArray}(h:Bk w gf 90 (dI ⟨tp,0,false,false,0⟩))(q hd:Int)(nl ap:Bool):
  Bk ((((w.setCell ⟨gf,1,none⟩ (.int .i64 q)).setCell ⟨gf,4,none⟩ (.int .i64 hd)).setCell ⟨gf,2,none⟩ (.bool nl)).setCell ⟨gf,3,none⟩ (.bool ap)) gf 90 (dI ⟨tp,q,nl,ap,hd⟩):=
 (((h.upd 1 (.int .i64 q) (cs':=dI ⟨tp,q,false,false,0⟩) rfl).upd 4 (.int .i64 hd) (cs':=dI ⟨tp,q,false,false,hd⟩) rfl).upd 2 (.bool nl) (cs':=dI ⟨tp,q,nl,false,hd⟩) rfl).upd 3 (.bool ap) (cs':=dI ⟨tp,q,nl,ap,hd⟩) rfl
theorem wN(v:Int)(hv:v=4\/v=5)(g a:Nat)(t:ByteArray)(e:Int)(gf:Nat)(tp:ByteArray)(w:World)(h:Cur w g t a e)(hf:Bk w gf 90 (dI ⟨tp,0,false,false,0⟩))(hne:gf≠g):
  Calls prog 234 #[.int .i64 v,.pointer (some ⟨g,0,none⟩),.pointer (some ⟨gf,0,none⟩)] w fun e' w'=>
   e'= .returned (.tuple #[])/\Cur w' g t (opR v t a e).2.1 (opR v t a e).2.2/\Bk w' gf 90 (dI (vB tp (opR v t a e).1))/\Mods (two g gf) w w':=by
 have U:=aa h;have V:=aa hf;have m:=aa hne
 have f:Hid (opR v t a e=(br t a e 1,(aH t a e 1).2.1,if iU v (br t a e 1)=true then fh (aH t a e 1).2.2 7 else(aH t a e 1).2.2)):=aa rfl;have K:=iV t a e;clear h hf hne;go_enter func234,ntmps234
 go_wp2_with fail
 refine(dR g a t e 1 _ U.o (by decide)).mono ?_;rintro e' w1 ⟨rfl,p,k⟩;have j:=aa p;have b:=aa (V.o.mods (Mods.of_grown (S:=fun i=>i=g) k rfl) (fun e=>m.o e));have y:Hid (Mods (two g gf) w w1):=aa (Mods.of_grown k (.inl rfl));clear p k;generalize br t a e 1=n at*;obtain⟨R,J⟩:∃R,aH t a e 1=R:=⟨_,rfl⟩;rw[J]at f j;clear J;obtain⟨T,C,G⟩:=R;simp only at f j⊢;obtain⟨z,A,X,Y,Z,o6⟩:=Fy ⟨n,K⟩;simp only at z A X Y Z o6;rcases hv with rfl| rfl
 focus
  have o:Hid (decide (3<n)=iU 4 n):=aa (by unfold iU;rw[au rfl,aL,eG,Bool.or_eq_true];simp only[cH];omega)
  by_cases c:3<n
  focus
   have l:Hid (iU 4 n=true):=aa (by rw[<-o.out,au c]);rw[au c]at A
  rotate_left
  ·have l:Hid (iU 4 n=false):=aa (by rw[<-o.out,ah c]);rw[ah c]at A;rw[l.o,Fl (by decide)]at f;clear c;obtain⟨⟨D,E,F⟩,H,f1,I⟩:=j.o.cells;have q:=b.o.cell 0;have r:=b.o.cell 1;have s:=b.o.cell 2;have u:=b.o.cell 3;have x:=b.o.cell 4
   have L:=b.o.free 0;have M:=b.o.free 1;have N:=b.o.free 2;have O:=b.o.free 3;have P:=b.o.free 4
   simp only[dI,ay,aE,aB]at q r s u x;go_wp2
   go_end0
   rw[f.o];refine⟨rfl,?_,?_,?_⟩
   ·exact j.o.four (fun e=>m.o e) _ _ _ _
   ·exact l8 b.o _ _ _ _
   ·exact y.o.trans (lZ _ _ _ _ _ _ _)
 rotate_left
 focus
  have o:Hid (decide (63<n)=iU 5 n):=aa (by unfold iU;rw[show decide ((5:Int)=4)=false from rfl,YH,Bool.or_false])
  by_cases c:63<n
  focus
   have l:Hid (iU 5 n=true):=aa (by rw[<-o.out,au c]);rw[au c]at z
  rotate_left
  ·have l:Hid (iU 5 n=false):=aa (by rw[<-o.out,ah c]);rw[ah c]at z;rw[l.o,Fl (by decide)]at f;clear c;obtain⟨⟨D,E,F⟩,H,f1,I⟩:=j.o.cells;have q:=b.o.cell 0;have r:=b.o.cell 1;have s:=b.o.cell 2;have u:=b.o.cell 3;have x:=b.o.cell 4
   have L:=b.o.free 0;have M:=b.o.free 1;have N:=b.o.free 2;have O:=b.o.free 3;have P:=b.o.free 4
   simp only[dI,ay,aE,aB]at q r s u x;go_wp2
   go_end0
   rw[f.o];refine⟨rfl,?_,?_,?_⟩
   ·exact j.o.four (fun e=>m.o e) _ _ _ _
   ·exact l8 b.o _ _ _ _
   ·exact y.o.trans (lZ _ _ _ _ _ _ _)
 rotate_left
 all_goals
  rw[l.o,if_pos rfl]at f;clear c
  go_wp2_with fail
  refine(cB g C t G 7 _ j.o).mono ?_;rintro e' Q ⟨rfl,p,k⟩;have B:Hid (Cur Q g t C (fh G 7)):=aa p;have d:=aa (b.o.mods (Mods.of_grown (S:=fun i=>i=g) k rfl) (fun e=>m.o e));have W:Hid (Mods (two g gf) w Q):=aa (y.o.trans (Mods.of_grown k (.inl rfl)));clear p k;obtain⟨⟨D,E,F⟩,H,f1,I⟩:=B.o.cells;have q:=d.o.cell 0;have r:=d.o.cell 1;have s:=d.o.cell 2;have u:=d.o.cell 3;have x:=d.o.cell 4
  have L:=d.o.free 0;have M:=d.o.free 1;have N:=d.o.free 2;have O:=d.o.free 3;have P:=d.o.free 4
  simp only[dI,ay,aE,aB]at q r s u x;go_wp2
  go_end0
  rw[f.o];refine⟨rfl,?_,?_,?_⟩
  ·exact B.o.four (fun e=>m.o e) _ _ _ _
  ·exact l8 d.o _ _ _ _
  ·exact W.o.trans (lZ _ _ _ _ _ _ _)
theorem oP:(prog.info? 90).map (fun i=>(i.zero,i.size,i.bytes))=some (some (.agg #[.string ⟨#[]⟩,.int .i64 0,.bool false,.bool false,.int .i64 0]),5,40):=by kernel_rfl
theorem Mv{p:Pk}(h:Ie p=true):p.codes.length<=60/\p.filters.length<=60/\p.props.length<=1010/\p.will.props.length<=1010:=by
 unfold Ie Ig at h;simp only[eh,Fx]at h;omega
end
end Go.Proofs.YtemooicddjimbaaGreatDoor
