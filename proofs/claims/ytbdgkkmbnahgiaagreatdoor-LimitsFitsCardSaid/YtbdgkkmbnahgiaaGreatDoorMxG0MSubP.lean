/- A part of what the laws stand on: MSubP, SubD, SubE, OwnK. -/
import Derived.Test.YtbdgkkmbnahgiaaGreatDoorMxG0FilC
import Derived.Deep.RegionLaw
set_option maxRecDepth 10000
set_option maxHeartbeats 8000000
namespace Go.Proofs.YtbdgkkmbnahgiaaGreatDoor
open Go.RowKit Go.Proofs.Tryz
def BS(f:Fi):Int:=f.qos% 4+f.handling% 4*16+pc f.noLocal 4+pc f.asPub 8
theorem Ly(f:Fi):0<=BS f/\BS f<64:=by
 have h:∀b n,0<=n->0<=pc b n/\pc b n<=n:=fun b n hn=>by unfold pc;split<;>omega
 have h1:=h f.noLocal 4 (by decide);have h2:=h f.asPub 8 (by decide)
 unfold BS;omega
def fiL(k:Int)(f:Fi):List UInt8:=ls (cQ f.topic)++(if k=8 then [UInt8.ofNat (BS f).toNat]else [])
def cdL(l:List Int):List UInt8:=l.map fun c=>UInt8.ofNat c.toNat
def Bg(v:Int)(p:Pk):List UInt8:=da p.id.toNat 2++gP v p.kind p.props
def sbS(v:Int)(p:Pk):List UInt8:=Bg v p++p.filters.flatMap (fiL p.kind)++cdL p.codes
def sbB(v:Int)(p:Pk):ByteArray×Int:=if sbE v p=0 then(⟨(sbS v p).toArray⟩,0)else(⟨#[]⟩,sbE v p)
def iU(v:Int)(n:Nat):Bool:=decide (63<n) || (decide (v=4)&&decide (3<n))
def vB(t:ByteArray)(n:Nat):Fi:=⟨t,((n% 4:Nat):Int),decide (n/ 4% 2=1),decide (n/ 8% 2=1),((n/ 16% 4:Nat):Int)⟩
def opR(v:Int)(t:ByteArray)(a:Nat)(e:Int):Nat×Nat×Int:=
 (br t a e 1,(aH t a e 1).2.1,if iU v (br t a e 1)=true then fh (aH t a e 1).2.2 7 else(aH t a e 1).2.2)
def fiR(v k:Int)(t:ByteArray)(a:Nat):Fi×Nat×Int:=
 if k=8 then(vB (rtC t a 0).1 (opR v t (rtC t a 0).2.1 (rtC t a 0).2.2).1,(opR v t (rtC t a 0).2.1 (rtC t a 0).2.2).2.1,(opR v t (rtC t a 0).2.1 (rtC t a 0).2.2).2.2)
 else(⟨(rtC t a 0).1,0,false,false,0⟩,(rtC t a 0).2.1,(rtC t a 0).2.2)
def lsR(v k:Int)(t:ByteArray):Nat->Nat->Int->List Fi->List Int->List Fi×List Int×Nat×Int
 | 0,a,e,fi,cd=>(fi,cd,a,e)
 | n+1,a,e,fi,cd=>
   if e≠0\/t.size<=a then(fi,cd,a,e)
   else if jm k=true then lsR v k t n (fiR v k t a).2.1 (fiR v k t a).2.2 (fi++[(fiR v k t a).1]) cd
   else lsR v k t n (a+1) 0 fi (cd++[((br t a 0 1:Nat):Int)])
def lh(v k:Int)(s:ByteArray):List Pr×Nat×Int:=fv v k s (aH s 0 0 2).2.1 (aH s 0 0 2).2.2
def li(v k:Int)(s:ByteArray):List Fi×List Int×Nat×Int:=lsR v k s (s.size+1) (lh v k s).2.1 (lh v k s).2.2 [] []
def jf(k:Int)(i:Nat)(l:List Pr)(fi:List Fi)(cd:List Int):Pk:={pk0 with kind:=k,id:=(i:Int),props:=l,filters:=fi,codes:=cd}
def jj(v k:Int)(s:ByteArray):Pk:=jf k (br s 0 0 2) (lh v k s).1 (li v k s).1 (li v k s).2.1
def sbR(v k:Int)(s:ByteArray):Pk×Int:=
 if ir v k=false then(pk0,2)
 else if(li v k s).2.2.2≠0 then(pk0,(li v k s).2.2.2)
 else if sbE v (jj v k s)≠0 then(pk0,sbE v (jj v k s))else(jj v k s,0)
theorem MP{v k:Int}:∀ {l:List Fi},fiE v k l=0↔∀f∈l,gj f.topic=true/\nT v k f=true
 | []=>by simp[fiE]
 | f :: l=>by
   have ih:=MP (v:=v) (k:=k) (l:=l);unfold fiE;cases h1:gj f.topic
   ·simp[h1]
   ·cases h2:nT v k f
    ·simp[h1,h2]
    ·simp[h1,h2,ih]
theorem MQ{v k:Int}:∀ {l:List Int},cdE v k l=0↔∀c∈l,xF v k c=true
 | []=>by simp[cdE]
 | c :: l=>by
   have ih:=MQ (v:=v) (k:=k) (l:=l);unfold cdE;cases h1:xF v k c
   ·simp[h1]
   ·simp[h1,ih]
structure SbOk (v:Int) (p:Pk):Prop where
 known:ir v p.kind=true
 id1:1<=p.id
 id2:p.id<=65535
 old:v=4->p.props=[]
 have':lj v p=true
 same:p=sbQ v p
 props:(aM p.kind p.props).2=0
 filters:∀f∈p.filters,gj f.topic=true/\nT v p.kind f=true
 codes:∀c∈p.codes,xF v p.kind c=true
theorem NU{v:Int}{p:Pk}(h:sbE v p=0):SbOk v p:=by
 unfold sbE at h;cases ha:xY v p
 ·rw[ha,if_pos rfl]at h;exact absurd h (by decide)
 rw[ha,ae (by decide)]at h
 by_cases hb:(aM p.kind p.props).2=0
 rotate_left
 ·rw[if_pos hb]at h;exact absurd h hb
 rw[ae (fun x=>x hb)]at h
 by_cases hf:fiE v p.kind p.filters=0
 rotate_left
 ·rw[if_pos hf]at h;exact absurd h hf
 rw[ae (fun x=>x hf)]at h;unfold xY eH at ha;simp only[eh,Bool.not_eq_true',Bool.or_eq_false_iff,cH,Ip,Kz]at ha;obtain⟨h1,⟨h2,h3,h4⟩,h5,h6⟩:=ha;refine⟨h1,by omega,by omega,fun x=>?_,h5,h6,hb,MP.1 hf,MQ.1 h⟩;rcases h4 with h4| h4
 ·exact absurd x h4
 ·exact aF (by omega)
theorem ue{v k:Int}(h:ir v k=true):(jm k=true/\(k=8\/k=10))\/(jm k=false/\(k=9\/k=11)):=by
 have h':=aR h
 by_cases hk:k=8\/k=10
 ·exact .inl ⟨au hk,hk⟩
 ·exact .inr ⟨ah hk,by omega⟩
theorem Iz{v:Int}{p:Pk}(h:p=sbQ v p)(ha:jm p.kind=true):p.codes=[]:=by
 rw[h];unfold sbQ;rw[if_pos ha];rfl
theorem Ib{v:Int}{p:Pk}(h:p=sbQ v p)(ha:jm p.kind=false):p.filters=[]:=by
 rw[h];unfold sbQ;rw[ae (by rw[ha];decide)];split<;>rfl
theorem Nw{n:Int}(h:jZ n=true):n=0\/n=1\/n=2:=by
 unfold jZ at h;simp at h;omega
theorem Pb:∀(q h:Fin 3) (nl ap:Bool),vB ⟨#[]⟩ (BS ⟨⟨#[]⟩,((q.1:Nat):Int),nl,ap,((h.1:Nat):Int)⟩).toNat=⟨⟨#[]⟩,((q.1:Nat):Int),nl,ap,((h.1:Nat):Int)⟩:=by decide+kernel
theorem Pa:∀q:Fin 3,(BS ⟨⟨#[]⟩,((q.1:Nat):Int),false,false,0⟩).toNat<4:=by decide+kernel
theorem LC{n:Int}(h:jZ n=true):∃q:Fin 3,n=((q.1:Nat):Int):=by
 rcases Nw h with h| h| h
 ·exact⟨0,h⟩
 ·exact⟨1,h⟩
 ·exact⟨2,h⟩
theorem LO{t:ByteArray}{q h:Int}(hq:jZ q=true)(hh:jZ h=true)(nl ap:Bool):vB t (BS ⟨t,q,nl,ap,h⟩).toNat=⟨t,q,nl,ap,h⟩:=by
 obtain⟨q,rfl⟩:=LC hq;obtain⟨h,rfl⟩:=LC hh;have e:=Pb q h nl ap;have e1:BS ⟨t,((q.1:Nat):Int),nl,ap,((h.1:Nat):Int)⟩=BS ⟨⟨#[]⟩,((q.1:Nat):Int),nl,ap,((h.1:Nat):Int)⟩:=rfl;rw[e1];unfold vB at e⊢;rw[Fi.mk.injEq]at e⊢;exact⟨rfl,e.2⟩
theorem Oi{v:Int}{f:Fi}(h:nT v 8 f=true):iU v (BS f).toNat=false/\vB f.topic (BS f).toNat=f:=by
 unfold nT at h;rw[ae (by decide)]at h;have hlt:=Ly f;obtain⟨t,q,nl,ap,hd⟩:=f
 by_cases h4:v=4
 ·rw[if_pos h4]at h;simp only[eh]at h;obtain⟨h1,h2⟩:=h;have h1:=aR h1;rw[Fi.mk.injEq]at h1;obtain⟨-,-,rfl,rfl,rfl⟩:=h1;refine⟨?_,LO h2 rfl _ _⟩;obtain⟨q,rfl⟩:=LC h2;have e:=Pa q;have e1:BS ⟨t,((q.1:Nat):Int),false,false,0⟩=BS ⟨⟨#[]⟩,((q.1:Nat):Int),false,false,0⟩:=rfl;unfold iU;rw[e1];simp only[Bool.or_eq_false_iff,Kz,Ip];exact⟨by omega,.inr (by omega)⟩
 ·rw[ae h4]at h;simp only[eh]at h;obtain⟨h1,h2,-⟩:=h;refine⟨?_,LO h1 h2 _ _⟩;unfold iU;rw[ah h4,ah (by omega)];rfl
theorem Eh(t:ByteArray)(n:Nat)(h:n<64):BS (vB t n)=n:=by
 have:∀m:Fin 64,BS (vB t m.1)=m.1:=by
  intro m;have e:BS (vB t m.1)=BS (vB ⟨#[]⟩ m.1):=rfl;rw[e];clear e
  revert m
  decide+kernel
 exact this ⟨n,h⟩
theorem Fz{t:ByteArray}{a:Nat}{b:UInt8}{rest:List UInt8}(h:(ls t).drop a=b :: rest):a<t.size:=by
 have hl:=congrArg List.length h;rw[bU,bM,aN]at hl;omega
theorem tf{t:ByteArray}{a:Nat}{b:UInt8}{rest:List UInt8}(h:(ls t).drop a=b :: rest):br t a 0 1=b.toNat:=by
 have hlt:=Fz h;rw[show((1:Int))=((1:Nat):Int)from rfl,sc (k:=1) (x:=[b]) (rest:=rest) h rfl (by omega)];simp[es]
theorem OD{l r:List UInt8}{a:Nat}{b:UInt8}(h:l.drop a=b :: r):l.drop (a+1)=r:=by rw[<-et,h];rfl
theorem Li{n:Nat}(h:n<256):(UInt8.ofNat n).toNat=n:=by rw[UInt8.toNat_ofNat'];omega
theorem NC{v k:Int}{t:ByteArray}{a:Nat}{f:Fi}{rest:List UInt8}(ha:a<=t.size)(hk:k=8\/k=10)(hv:bN f.topic=true)(ho:nT v k f=true)(h:(ls t).drop a=fiL k f++rest):
  fiR v k t a=(f,a+(fiL k f).length,0)/\a+(fiL k f).length<=t.size/\(ls t).drop (a+(fiL k f).length)=rest:=by
 have hl:=congrArg List.length h;rw[bU,List.length_append,aN]at hl;have hpos:2<=(fiL k f).length:=by unfold fiL;rw[List.length_append,si,List.length_append,fM];omega
 refine⟨?_,by omega,by rw[<-et,h,GU rfl]⟩;unfold fiL at h;rw[si,List.append_assoc,List.append_assoc]at h;obtain⟨h1,h2,h3⟩:=Jg ha hv h;obtain⟨g1,g2⟩:=Fq ha 0;have hr:rtC t a 0=(f.topic,a+2+f.topic.size,0):=by rw[g2 (by rw[h1]),h1]
 have hlen:(fiL k f).length=2+f.topic.size+(if k=8 then 1 else 0):=by
  unfold fiL;rw[List.length_append,si,List.length_append,fM,aN];split<;>rfl
 rw[hlen];unfold fiR;rw[hr];rcases hk with rfl| rfl
 ·rw[if_pos rfl,if_pos rfl];rw[if_pos rfl]at h3;obtain⟨o1,o2⟩:=Oi ho;have hn:=Ly f;have hnum:br t (a+2+f.topic.size) 0 1=(BS f).toNat:=by rw[tf h3,Li (by omega)]
  have htk:aH t (a+2+f.topic.size) 0 1=(t.extract (a+2+f.topic.size) (a+2+f.topic.size+1),a+2+f.topic.size+1,0):=dZ (k:=1) (Fz h3);unfold opR;rw[hnum,htk,o1,ae (by decide),o2];simp only;rw[show a+2+f.topic.size+1=a+(2+f.topic.size+1) by omega]
 ·rw[ae (by decide),ae (by decide)];simp only;have hp:f=⟨f.topic,0,false,false,0⟩:=by
   unfold nT at ho;rw[if_pos rfl]at ho;simp only[eh]at ho;have h1:=aR ho.1;have h2:=aR ho.2;rw[h2]at h1;exact h1
  rw[<-hp,show a+2+f.topic.size=a+(2+f.topic.size+0) by omega]
theorem Oo{v k:Int}{t:ByteArray}(hk:k=8\/k=10):∀(l:List Fi) (n a:Nat) (fi:List Fi),l.length<n->a<=t.size->(∀f∈l,bN f.topic=true/\nT v k f=true)->(ls t).drop a=l.flatMap (fiL k)->lsR v k t n a 0 fi []=(fi++l,[],t.size,0)
 | [],n+1,a,fi,_,ha,_,h=>by
   have hl:=congrArg List.length h;rw[bU,aN]at hl;simp at hl;unfold lsR;rw[if_pos (.inr (by omega)),show a=t.size by omega];simp
 | f :: l,n+1,a,fi,hn,ha,hf,h=>by
   rw[cF]at h;have hfi:=hf f (.head _);obtain⟨h1,h2,h3⟩:=NC ha hk hfi.1 hfi.2 h;have hpos:2<=(fiL k f).length:=by unfold fiL;rw[List.length_append,si,List.length_append,fM];omega
   unfold lsR;rw[ae (by omega),if_pos (show jm k=true from au hk),h1];simp only;rw[Oo hk l n _ (fi++[f]) (by simp at hn;omega) h2 (fun g hg=>hf g (.tail _ hg)) h3];simp
theorem Oq{v k:Int}{t:ByteArray}(hk:jm k=false):∀(l:List Int) (n a:Nat) (cd:List Int),l.length<n->a<=t.size->(∀c∈l,0<=c/\c<256)->(ls t).drop a=cdL l->lsR v k t n a 0 [] cd=([],cd++l,t.size,0)
 | [],n+1,a,cd,_,ha,_,h=>by
   have hl:=congrArg List.length h;rw[bU,aN]at hl;simp[cdL]at hl;unfold lsR;rw[if_pos (.inr (by omega)),show a=t.size by omega];simp
 | c :: l,n+1,a,cd,hn,ha,hf,h=>by
   have hc:=hf c (.head _);have h':(ls t).drop a=UInt8.ofNat c.toNat :: cdL l:=h;have hlt:=Fz h';unfold lsR;rw[ae (by omega),ae (by rw[hk];decide),tf h',Li (by omega)];rw[Oq hk l n _ _ (by simp at hn;omega) (by omega) (fun g hg=>hf g (.tail _ hg)) (OD h')];rw[show((c.toNat:Nat):Int)=c by omega];simp
theorem JI{s:ByteArray}(h:gj s=true):bN s=true:=by
 unfold gj jY at h;simp only[eh]at h;exact h.1.2
theorem Lm{v k c:Int}(h:xF v k c=true):0<=c/\c<256:=by
 unfold xF at h;split at h
 ·unfold tq at h;simp at h;omega
 ·exact n6 h
theorem Lf(k:Int):∀l:List Fi,l.length<=(l.flatMap (fiL k)).length
 | []=>by simp
 | f :: l=>by
   have ih:=Lf k l;have hpos:2<=(fiL k f).length:=by unfold fiL;rw[List.length_append,si,List.length_append,fM];omega
   rw[cF,List.length_append,bM];omega
theorem Nf{v:Int}{p:Pk}(x:sbE v p=0)(hn:∀q∈p.props,q.n<4294967296){s:ByteArray}(hs:ls s=sbS v p):sbR v p.kind s=(p,0):=by
 have o:=NU x;have h0:(ls s).drop 0=da p.id.toNat 2++(gP v p.kind p.props++(p.filters.flatMap (fiL p.kind)++cdL p.codes)):=by
  rw[cS,hs];unfold sbS Bg;simp[List.append_assoc]
 have hl:=congrArg List.length h0;rw[bU,List.length_append,fM,aN]at hl;have i1:=o.id1;have i2:=o.id2
 have hnum:br s 0 0 2=p.id.toNat:=by rw[show((2:Int))=((2:Nat):Int)from rfl,sc (k:=2) h0 (fM _ _) (by omega),H7 _ (by omega)]
 have htk:aH s 0 0 2=(s.extract 0 2,2,0):=dZ (k:=2) (by omega);have h1:(ls s).drop 2=gP v p.kind p.props++(p.filters.flatMap (fiL p.kind)++cdL p.codes):=by
  have:=GU (r:=gP v p.kind p.props++(p.filters.flatMap (fiL p.kind)++cdL p.codes)) (fM p.id.toNat 2);rw[<-h0,cS]at this;exact this
 obtain⟨g1,g2,g3⟩:=JG (v:=v) (k:=p.kind) (l:=p.props) (by omega) o.old o.props hn h1;have hpr:lh v p.kind s=(p.props,2+(gP v p.kind p.props).length,0):=by
  unfold lh;rw[htk];exact g1
 have hls:li v p.kind s=(p.filters,p.codes,s.size,0):=by
  unfold li;rw[hpr];simp only;have hz:=congrArg List.length g3;rw[bU,List.length_append,aN]at hz;rcases ue o.known with ⟨ha,hk⟩ | ⟨ha,hk⟩
  ·have hc:=Iz o.same ha;rw[hc]at g3⊢;rw[show cdL []=[]from rfl,cW]at g3;have:=Lf p.kind p.filters;rw[Oo hk p.filters _ _ [] (by omega) g2 (fun f hf=>⟨JI (o.filters f hf).1,(o.filters f hf).2⟩) g3];rfl
  ·have hc:=Ib o.same ha;rw[hc]at g3⊢;rw[List.flatMap_nil,dX]at g3;have:(cdL p.codes).length=p.codes.length:=eD ..;rw[Oq ha p.codes _ _ [] (by omega) g2 (fun c hc=>Lm (o.codes c hc)) g3];rfl
 have hfull:jj v p.kind s=p:=by
  unfold jj;rw[hnum,hpr,hls];unfold jf;simp only;rw[show((p.id.toNat:Nat):Int)=p.id by omega];rcases ue o.known with ⟨ha,hk⟩ | ⟨ha,hk⟩
  ·have hc:=Iz o.same ha;have hq:=o.same;unfold sbQ at hq;rw[if_pos ha]at hq;rw[hc];exact hq.symm
  ·have hc:=Ib o.same ha;have hq:=o.same;unfold sbQ at hq;rw[ae (by rw[ha];decide)]at hq;rw[hc]
   by_cases hs:pP v p.kind=true
   ·rw[if_pos hs]at hq;have:p.codes=[]:=by rw[hq];rfl
    rw[this];exact hq.symm
   ·rw[ae hs]at hq;exact hq.symm
 unfold sbR;rw[ae (by rw[o.known];decide),hls,hfull,x];simp
theorem vA{v k:Int}{t:ByteArray}{a:Nat}(hk:k=8\/k=10)(ha:a<=t.size)(h:(fiR v k t a).2.2=0):
  a<(fiR v k t a).2.1/\(fiR v k t a).2.1<=t.size/\(ls t).drop a=fiL k (fiR v k t a).1++(ls t).drop (fiR v k t a).2.1:=by
 have hT:∀(e0:(rtC t a 0).2.2=0),a+2<=(rtC t a 0).2.1/\(rtC t a 0).2.1<=t.size/\(ls t).drop a=ls (cQ (rtC t a 0).1)++(ls t).drop (rtC t a 0).2.1:=by
  intro e0;obtain⟨g1,g2⟩:=Fq ha 0;rw[g1]at e0;rw[g2 e0];obtain⟨-,h2,-,-,h5⟩:=sC e0;rw[si,List.append_assoc];refine⟨?_,h2,h5⟩;have hl:=congrArg List.length h5;rw[bU,List.length_append,List.length_append,fM,bU,aN,aN]at hl;omega
 unfold fiR at h⊢;rcases hk with rfl| rfl
 ·rw[if_pos rfl]at h⊢;simp only at h⊢;have hb:iU v (br t (rtC t a 0).2.1 (rtC t a 0).2.2 1)=false:=by
   cases hb:iU v (br t (rtC t a 0).2.1 (rtC t a 0).2.2 1)
   ·rfl
   ·unfold opR at h;rw[hb,if_pos rfl]at h;exact(gW h (by decide)).elim
  unfold opR at h⊢;rw[hb,ae (by decide)]at h;simp only at h⊢;obtain⟨h1,h2,h3⟩:=i7 (k:=1) h;obtain⟨t1,t2,t3⟩:=hT h1;rw[h1]at hb⊢;have h3':aH t (rtC t a 0).2.1 0 1=_:=h3;rw[h3'];simp only;refine⟨by omega,h2,?_⟩;obtain⟨b,hb1⟩:∃b,(ls t).drop (rtC t a 0).2.1=b :: (ls t).drop ((rtC t a 0).2.1+1):=⟨_,bQ (by rw[aN];omega)⟩;have hn:=tf hb1;have hlt:b.toNat<64:=by
   rw[hn]at hb;unfold iU at hb;simp only[Bool.or_eq_false_iff,Ip]at hb;omega
  rw[t3,hb1,hn];unfold fiL;rw[if_pos rfl,Eh _ _ hlt,dN,UInt8.ofNat_toNat,List.append_assoc];rfl
 ·rw[ae (by decide)]at h⊢;simp only at h⊢;obtain⟨t1,t2,t3⟩:=hT h;refine⟨by omega,t2,?_⟩;unfold fiL;rw[ae (by decide),cW];exact t3
theorem qo{v k:Int}{t:ByteArray}(hk:ir v k=true):∀(n a:Nat) (e:Int) (fi:List Fi) (cd:List Int),t.size- a<n->a<=t.size->(lsR v k t n a e fi cd).2.2.2=0->
  e=0/\∃l m,(lsR v k t n a e fi cd).1=fi++l/\(lsR v k t n a e fi cd).2.1=cd++m/\(ls t).drop a=l.flatMap (fiL k)++cdL m/\(jm k=true->m=[])/\(jm k=false->l=[])
 | n+1,a,e,fi,cd,hn,ha,h=>by
   unfold lsR at h⊢
   by_cases hc:e≠0\/t.size<=a
   ·rw[if_pos hc]at h⊢;simp only at h⊢;refine⟨h,[],[],by simp,by simp,?_,fun _=>rfl,fun _=>rfl⟩;have:t.size<=a:=hc.resolve_left (fun x=>x h);rw[gF (by rw[aN];omega)];rfl
   ·rw[ae hc]at h⊢;have he:e=0:=aU.1 fun x=>hc (.inl x);have hlt:a<t.size:=Nat.lt_of_not_le fun x=>hc (.inr x);refine⟨he,?_⟩;rcases ue hk with ⟨hask,hkk⟩ | ⟨hask,hkk⟩
    ·rw[if_pos hask]at h⊢
     by_cases hz:(fiR v k t a).2.2=0
     ·obtain⟨f1,f2,f3⟩:=vA hkk ha hz;obtain⟨-,l,m,g1,g2,g3,g4,g5⟩:=qo hk n _ _ _ _ (by omega) f2 h;refine⟨(fiR v k t a).1 :: l,m,by rw[g1];simp,g2,?_,g4,fun x=>by rw[hask]at x;cases x⟩;rw[f3,g3,cF,List.append_assoc]
     ·exfalso;cases n with
      | zero=>omega
      | succ n=>
        unfold lsR at h;rw[if_pos (.inl hz)]at h;exact hz h
    ·rw[ae (by rw[hask];decide)]at h⊢;obtain⟨-,l,m,g1,g2,g3,g4,g5⟩:=qo hk n _ _ _ _ (by omega) (by omega) h;obtain⟨b,hb1⟩:∃b,(ls t).drop a=b :: (ls t).drop (a+1):=⟨_,bQ (by rw[aN];omega)⟩;have hl:=g5 hask;subst hl;refine⟨[],((br t a 0 1:Nat):Int) :: m,g1,by rw[g2];simp,?_,fun x=>(by rw[hask]at x;cases x),fun _=>rfl⟩;rw[hb1,g3,tf hb1];simp[cdL]
theorem Bf{v k:Int}{s:ByteArray}{q:Pk}(h:sbR v k s=(q,0)):sbE v q=0/\sbS v q=ls s/\q.kind=k:=by
 unfold sbR at h;cases hk:ir v k
 ·rw[hk,if_pos rfl]at h;injection h with _ h;exact absurd h (by decide)
 rw[hk,ae (by decide)]at h
 by_cases hl:(li v k s).2.2.2=0
 rotate_left
 ·rw[if_pos hl]at h;injection h with _ h;exact absurd h hl
 rw[ae (fun x=>x hl)]at h
 by_cases hv:sbE v (jj v k s)=0
 rotate_left
 ·rw[if_pos hv]at h;injection h with _ h;exact absurd h hv
 rw[ae (fun x=>x hv)]at h
 injection h with h _
 subst h;refine⟨hv,?_,rfl⟩;have hle:(lh v k s).2.1<=s.size:=by
  have h0:=dy (t:=s) (a:=0) (ag _) 0 2;unfold lh;exact Ec _ _ _ h0
 unfold li at hl;obtain⟨e1,l,m,g1,g2,g3,g4,g5⟩:=qo hk _ _ _ _ _ (by omega) hle hl;have e1':=e1;unfold lh at e1';obtain⟨p1,p2,p3,p4,p5⟩:=yv (dy (t:=s) (a:=0) (ag _) 0 2) e1';obtain⟨t1,t2,t3⟩:=i7 (k:=2) p1;have t3':aH s 0 0 2=(s.extract 0 2,2,0):=t3;have hb:=lY (t:=s) (a:=0) (by omega);rw[cS]at hb;unfold sbS Bg jj jf;simp only;rw[List.append_assoc,List.append_assoc,dN,hb]
 congr 1
 have hpr:fv v k s (aH s 0 0 2).2.1 (aH s 0 0 2).2.2=lh v k s:=rfl;rw[hpr]at p5;rw[show(aH s 0 0 2).2.1=2 by rw[t3']]at p5;rw[show(0+2:Nat)=2 from rfl,p5]
 congr 1
 unfold li;rw[g1,g2,dX,dX,g3]
section
attribute [local go_sem ↓] bD bF bH bI bu
attribute [local go_sem] bc aD bh bg bK bJ bd aY be aO ax cI dC dB dt dj di dA dr dp dn bW co bO bZ bX cz cy cw cu ct cC cn bS bP bR
theorem Wi(q:Int):bits BinOp.and IntKind.i64 q 3=q% 4:=by
 show IntKind.i64.wrap ((BitVec.ofInt 64 q&&& BitVec.ofInt 64 3).toNat:Int)=_;rw[BitVec.toNat_and,show(BitVec.ofInt 64 3).toNat=2^ 2- 1 from rfl,kC,BitVec.toNat_ofInt,aQ];omega
theorem VT:∀a b:Fin 4,bits BinOp.or IntKind.i64 ((a.1:Nat):Int) (((b.1:Nat):Int)*16)=((a.1:Nat):Int)+((b.1:Nat):Int)*16:=by decide+kernel
theorem VU:∀a b:Fin 4,bits BinOp.or IntKind.i64 (((a.1:Nat):Int)+((b.1:Nat):Int)*16) 4=((a.1:Nat):Int)+((b.1:Nat):Int)*16+4:=by decide+kernel
theorem VE:∀a b:Fin 4,bits BinOp.or IntKind.i64 (((a.1:Nat):Int)+((b.1:Nat):Int)*16) 8=((a.1:Nat):Int)+((b.1:Nat):Int)*16+8:=by decide+kernel
theorem VW:∀a b:Fin 4,bits BinOp.or IntKind.i64 (((a.1:Nat):Int)+((b.1:Nat):Int)*16+4) 8=((a.1:Nat):Int)+((b.1:Nat):Int)*16+12:=by decide+kernel
theorem VZ(f:Fi):∃A B:Int,f.qos% 4=A/\f.handling% 4=B/\bits BinOp.or IntKind.i64 A (B*16)=A+B*16/\bits BinOp.or IntKind.i64 (A+B*16) 4=A+B*16+4/\bits BinOp.or IntKind.i64 (A+B*16) 8=A+B*16+8/\
  bits BinOp.or IntKind.i64 (A+B*16+4) 8=A+B*16+12:=by
 obtain⟨a,ha⟩:∃a:Fin 4,f.qos% 4=((a.1:Nat):Int):=⟨⟨(f.qos% 4).toNat,by omega⟩,by simp only;omega⟩;obtain⟨b,hb⟩:∃b:Fin 4,f.handling% 4=((b.1:Nat):Int):=⟨⟨(f.handling% 4).toNat,by omega⟩,by simp only;omega⟩;exact⟨_,_,ha,hb,VT a b,VU a b,VE a b,VW a b⟩
theorem VF(f:Fi)(w:World):
  Calls prog 15 #[.agg #[.string f.topic,.int .i64 f.qos,.bool f.noLocal,.bool f.asPub,.int .i64 f.handling]] w fun e w'=>e= .returned (.int .i64 (BS f))/\Below w.heap.size w w':=by
 obtain⟨A,B,hA,hB,o1,o2,o3,o4⟩:=VZ f;have HO:Hid (BS f=A+B*16+pc f.noLocal 4+pc f.asPub 8):=aa (by unfold BS;rw[hA,hB]);have a1:=Wi f.qos;have a2:=Wi f.handling;have m2:0<=B/\B<4:=by omega
 rw[hA]at a1;rw[hB]at a2;have O1:=aa o1;have O2:=aa o2;have O3:=aa o3;have O4:=aa o4
 clear hA hB o1 o2 o3 o4;obtain⟨t,q,nl,ap,hd⟩:=f;simp only at HO a1 a2⊢;generalize BS ⟨t,q,nl,ap,hd⟩=R at*;have HB0:=aa ((aq w.heap.size w).alloc (ac _) (.cells #[.string t,.int .i64 q,.bool nl,.bool ap,.int .i64 hd] 32));cases nl<;>cases ap
 all_goals
  go_enter func15,ntmps15;go_wp2;go_ret;refine⟨?_,HB0.o⟩;have e:=HO.o;simp only[pc,if_true,if_false,Bool.false_eq_true,Int.add_zero]at e;rw[e];have p1:=O1.o;have p2:=O2.o;have p3:=O3.o;have p4:=O4.o
  show Ending.returned (Value.int .i64 _)=_
  first
  | rw[p1,p2,p4];congr 2;omega
  | rw[p1,p2]
  | rw[p1,p3]
  | rw[p1]
theorem NT{v:Int}{p:Pk}(k:Nat):(Bg v p++(p.filters.take k).flatMap (fiL p.kind)).length<=(sbS v p).length:=by
 unfold sbS;have:(p.filters.flatMap (fiL p.kind)).length=((p.filters.take k).flatMap (fiL p.kind)).length+((p.filters.drop k).flatMap (fiL p.kind)).length:=by
  rw[<-List.length_append,<-fR,cg]
 rw[List.length_append,List.length_append,List.length_append];omega
theorem Nd{v:Int}{p:Pk}(k:Nat):(Bg v p++p.filters.flatMap (fiL p.kind)++cdL (p.codes.take k)).length<=(sbS v p).length:=by
 unfold sbS cdL;simp only[List.length_append,eD,cY];omega
theorem PK{k:Int}{l:List Fi}{i:Nat}{f:Fi}(hf:l[i]? =some f):(l.take (i+1)).flatMap (fiL k)=(l.take i).flatMap (fiL k)++fiL k f:=by
 rw[List.take_add_one,hf,fR];simp
theorem PN{l:List Int}{i:Nat}{c:Int}(hc:l[i]? =some c):cdL (l.take (i+1))=cdL (l.take i)++[UInt8.ofNat c.toNat]:=by
 unfold cdL;rw[List.take_add_one,hc,Ii];simp
theorem MR{c:Int}(h:0<=c/\c<256):∃b:UInt8,UInt8.ofNat c.toNat=b/\c=(b.toNat:Int):=⟨_,rfl,by rw[UInt8.toNat_ofNat'];omega⟩
theorem vV{w w':World}{r:Option Nat}{g:Nat}{t:TypeId}{cs:Array Value}(hg:w.grownBy w' r)(h:Bk w g t cs)(hne:r≠some g):Bk w' g t cs:=
 (hg.block g h.lt (by first| exact hne| exact hne.symm)).trans h
theorem Vp(v:Int)(p:Pk)(h:Hs)(w:World)(ip:PkIn w w.heap.size p h)(ok:PkOk p)(hz:(sbS v p).length<=140737488351232):
  Calls prog 12 #[.int .i64 v,pkV p h] w fun e w'=>e= .returned (.tuple #[.string (sbB v p).1,.int .i64 (sbB v p).2])/\Below w.heap.size w w':=by
 have OK:=aa ok;have HZ:=aa hz;have S0:=aa ((St.start w).push ip);have HE:Hid (sbB v p=if sbE v p=0 then(⟨(sbS v p).toArray⟩,0)else(⟨#[]⟩,sbE v p)):=aa rfl;have l0:=S0.o.ld 0 rfl;clear ip ok hz;go_enter func12,ntmps12
 go_wp2_with fail
 refine(lg v p h _ (S0.o.into 0 rfl) OK.o).mono ?_;rintro e w1 ⟨rfl,hb⟩;have S1:=aa (S0.o.below hb);clear hb l0
 by_cases he:sbE v p=0
 rotate_left
 ·have HX:Hid (sbB v p=(⟨#[]⟩,sbE v p)):=aa (by rw[HE.o,ae he]);have e0:(sbE v p !=0)=true:=aA.2 he;clear he;go_wp2;go_ret2;exact⟨by rw[HX.o];rfl,S1.o.kept⟩
 have HX:Hid (sbB v p=(⟨(sbS v p).toArray⟩,0)):=aa (by rw[HE.o,if_pos he]);have G:=aa (NU he);have e0:(sbE v p !=0)=false:=by rw[he];rfl
 clear he HE;have k4:=(S1.o.cell 0 rfl 4).trans (dj _ _);obtain⟨n,hn,hw1⟩:∃n:Nat,Hid (p.id.toNat=n)/\IntKind.u64.wrap p.id=(n:Int):=⟨_,aa rfl,by rw[iZ];have:=G.o.id1;have:=G.o.id2;omega⟩
 go_wp2_with fail
 refine(pD n 2 _ (by have:=hn.out;have:=G.o.id2;have:=G.o.id1;omega) (by omega) (by omega)).mono ?_;rintro e w2 ⟨rfl,hb⟩;have S2:=aa (S1.o.below hb);clear hb k4 hw1 e0;obtain⟨v3,w3,hcv,ho3,hb3⟩:=V7 (P:=prog) w2 9 80 5 ⟨(da n 2).toArray⟩ underlying9 underlying80 underlying5;rw[jo]at ho3;have O3:=aa ho3;have B3:=aa hb3
 have S3:=aa (S2.o.below hb3);clear ho3 hb3;have k0:=(S3.o.cell 0 rfl 0).trans (cI _ _);have k24:=(S3.o.cell 0 rfl 24).trans (bR _ _);have HHD:Hid (Bg v p=da n 2++gP v p.kind p.props):=aa (by unfold Bg;rw[hn.out])
 go_upto_if 28 with fail
 go_cut [7] (fun a wx=>OB wx w2.heap.size a (Bg v p)/\Below w2.heap.size w2 wx)
 case first=>
  by_cases h5:v=5
  ·have e5:(v==5)=true:=aK.2 h5;have HT:Hid (Bg v p=da n 2++(aM p.kind p.props).1):=aa (by rw[HHD.o];unfold gP;rw[ae (by omega)]);clear h5
   go_wp2_with fail
   refine(UB p.kind p.props _ rfl OK.o.props h.props.a h.props.c _ (S3.o.into 0 rfl).props OK.o.len.2.2.2).mono ?_;rintro e w4 ⟨rfl,hb⟩;have O4:=aa (O3.o.below hb);have B4:=aa (B3.o.trans (hb.mono B3.o.size));have hlen:(aM p.kind p.props).1.length<=140737488351232:=by
    have h1:=NT (v:=v) (p:=p) 0;have h2:=HZ.o;rw[List.length_append,HT.o,List.length_append]at h1;omega
   have HLEN:=aa hlen;clear hb hlen k0 k24
   go_wp2_with (at_builtin;refine UF _ rfl (.tmp 37) (.tmp 38) 80 9 rfl w2.heap.size 5 underlying80 underlying9 ku v3 _ rfl O4.o _ rfl (by rw[fM,<-aN,jo];have:=HLEN.o;omega) B4.o.size ?_;intro v' w5 hob hg)
   have R:OB w5 w2.heap.size v' (Bg v p)/\Below w2.heap.size w2 w5:=by
    refine⟨?_,kz B4.o hg B4.o.size (fun g hg'=>(O4.o.block g hg').1)⟩;rw[HT.o];rw[jo]at hob;exact hob
   clear hob hg;go_wp2
   go_meet
   case rel=>exact R
  ·have e5:(v==5)=false:=ar.2 h5;have HT:Hid (Bg v p=da n 2):=aa (by
    have:=aR (show decide ((v=4\/v=5)/\8<=p.kind/\p.kind<=11)=true from G.o.known);rw[HHD.o];unfold gP;rw[if_pos (by omega),cW])
   clear h5;go_wp2
   go_meet
   case rel=>exact⟨by rw[HT.o];exact O3.o,B3.o⟩
 obtain⟨ho4,hb4⟩:=hcut;have O4:=aa ho4;have B4:=aa hb4
 have S4:=aa (S2.o.below hb4);clear ho4 hb4 k0 k24 hcv;have HFL:=aa OK.o.len.2.2.1;have HCL:=aa OK.o.len.2.1;obtain⟨N,hN⟩:∃n,p.filters.length=n:=⟨_,rfl⟩;obtain⟨M,hM⟩:∃m,p.codes.length=m:=⟨_,rfl⟩;have k23:=S4.o.cell 0 rfl 23;rw[bP,hN]at k23;have HN:=aa hN;have HM:=aa hM
 have hn2:N<=4611686018427387904:=by have:=HFL.o;omega
 have hm2:M<=4611686018427387904:=by have:=HCL.o;omega
 clear hN hM;go_wp2
 go_loopw [7,43] (fun o i wr=>∃k:Nat,k<=N/\i= .int .i64 k/\OB wr w2.heap.size o (Bg v p++(p.filters.take k).flatMap (fiL p.kind))/\Below w2.heap.size w2 wr) (fun _ i _=>N- (intOf i).toNat)
 case atStart=>exact⟨0,by omega,rfl,by rw[GZ,List.flatMap_nil,cW];exact O4.o,B4.o⟩
 case round=>
  obtain⟨k,hk,rfl,hob,hbel⟩:=hrel;have S5:=aa (S2.o.below hbel);have O5:=aa hob;have B5:=aa hbel
  clear hob hbel k23;have kk:=(S5.o.cell 0 rfl 0).trans (cI _ _);have k22:=S5.o.cell 0 rfl 22;rw[bS,HM.o]at k22
  by_cases hlt:k<N
  ·have hp:k<p.filters.length:=by rw[HN.o];exact hlt
   obtain⟨b,o,hA,hb,c0,c1,c2,c3,c4⟩:=((S5.o.into 0 rfl).filters).atF hp;have hts:=OK.o.topics p.filters[k] (iY hp);have hok:=G.o.filters p.filters[k] (iY hp);have HNX:=aa (PK (k:=p.kind) (List.getElem?_eq_getElem hp));have HPT:=aa (NT (v:=v) (p:=p) (k+1));generalize p.filters[k]=f at*;have HTS:=aa hts;have HV:=aa (JI hok.1);have HTX:Hid (IM f.topic=(cQ f.topic,0)):=aa (by unfold IM;rw[if_pos HV.o]);rw[HNX.o,<-List.append_assoc]at HPT;have HL5:Hid ((Bg v p++(p.filters.take k).flatMap (fiL p.kind)).length+(fiL p.kind f).length<=140737488351232):=aa (by
    have:=HPT.o;have:=HZ.o;rw[List.length_append]at*;rw[List.length_append]at*;omega)
   have b1:(0:Int)<=(k:Int):=by omega
   have b2:(k:Int)<(N:Int):=by omega
   clear hp hts hok;obtain⟨L,hL⟩:∃L,Bg v p++(p.filters.take k).flatMap (fiL p.kind)=L:=⟨_,rfl⟩;rw[hL]at HL5 O5;have HLQ:=aa hL;clear hL HPT;have S6:=aa (S5.o.alloc (.cells #[.string f.topic,.int .i64 f.qos,.bool f.noLocal,.bool f.asPub,.int .i64 f.handling] 32));have B6:=aa (B5.o.alloc B5.o.size (.cells #[.string f.topic,.int .i64 f.qos,.bool f.noLocal,.bool f.asPub,.int .i64 f.handling] 32));have O6:=aa (O5.o.alloc (.cells #[.string f.topic,.int .i64 f.qos,.bool f.noLocal,.bool f.asPub,.int .i64 f.handling] 32));have K6:=aa (Bk.fresh wr 32 #[.string f.topic,.int .i64 f.qos,.bool f.noLocal,.bool f.asPub,.int .i64 f.handling])
   go_wp2_with fail
   refine(UW f.topic _ (by have:=HTS.o;omega)).mono ?_;rintro e w6 ⟨rfl,hb6⟩;have S7:=aa (S6.o.below hb6);have B7:=aa (B6.o.trans (hb6.mono B6.o.size));have O7:=aa (O6.o.below hb6);have K7:=aa (K6.o.below hb6 K6.o.lt);clear hb6 kk k22 c0 c1 c2 c3 c4;rw[HTX.o];simp only;have HFZ:Hid (L.length+(cQ f.topic).size<=140737488351232):=aa (by
    have:=HL5.o;unfold fiL at this;rw[List.length_append,aN]at this;omega)
   have HNE:Hid (u7.ownBlock≠some wr.heap.size):=aa (by
    obtain⟨g,cap,hv,h1,h2,-⟩:=O5.o;rw[hv];intro e;have:g=wr.heap.size:=Option.some.inj e;omega)
   by_cases h8:p.kind=8
   ·have e8:(p.kind==8)=true:=aK.2 h8;obtain⟨y,hy,hyn⟩:=MR (c:=BS f) (by have:=Ly f;omega);have HFI:Hid (fiL p.kind f=ls (cQ f.topic)++[y]):=aa (by unfold fiL;rw[if_pos h8,hy]);have hwb:IntKind.u8.wrap (y.toNat:Int)=(y.toNat:Int):=by have:=y.toNat_lt;rw[GM];omega
    have HYN:=aa hyn;clear h8 hy hyn
    go_wp2_with (at_builtin;refine UF _ rfl (.tmp 53) (.tmp 54) 80 9 rfl w2.heap.size 5 underlying80 underlying9 ku u7 _ rfl O7.o _ rfl (by have:=HFZ.o;omega) B7.o.size ?_;intro v' w8 hob hg;have B8:=aa (kz B7.o hg B7.o.size (fun g hg'=>(O7.o.block g hg').1));have O8:=aa hob;have S8:=aa (S2.o.below B8.o);have K8:Hid (Bk w8 wr.heap.size 32 #[.string f.topic,.int .i64 f.qos,.bool f.noLocal,.bool f.asPub,.int .i64 f.handling]):=aa (vV hg K7.o HNE.o);clear hob hg;have kk:=(S8.o.cell 0 rfl 0).trans (cI _ _);have c0:=K8.o.cell 0;have c1:=K8.o.cell 1;have c2:=K8.o.cell 2;have c3:=K8.o.cell 3;have c4:=K8.o.cell 4;simp only[ay,aE,aB]at c0 c1 c2 c3 c4)
    refine(VF f _).mono ?_;rintro e w9 ⟨rfl,hb9⟩;have S9:=aa (S8.o.below hb9);have B9:=aa (B8.o.trans (hb9.mono B8.o.size));have O9:=aa (O8.o.below hb9);clear hb9 kk c0 c1 c2 c3 c4;rw[HYN.o]
    go_wp2_with (at_builtin;refine UN _ rfl (.tmp 59) (.tmp 63) 80 rfl w2.heap.size 5 underlying80 ku v' _ rfl (O9.o.alloc _) _ _ 1 [y] rfl (Rd.lit _ _ _ rfl (ed _) rfl) (by have:=HL5.o;rw[HFI.o,List.length_append]at this;rw[List.length_append];omega) (B9.o.alloc B9.o.size _).size ?_;intro v'' w10 hob hg)
    have R:OB w10 w2.heap.size v'' (L++fiL p.kind f)/\Below w2.heap.size w2 w10:=by
     refine⟨?_,kz (B9.o.alloc B9.o.size _) hg (B9.o.alloc B9.o.size _).size (fun g hg'=>(O9.o.block g hg').1)⟩;rw[HFI.o,<-List.append_assoc];exact hob
    have RR:=aa R;clear hob hg R;go_wp2
    go_roundw
    case rel=>
     simp only[hA]
     (repeat apply Exists.intro)
     refine⟨?_,rfl⟩;exact⟨k+1,by omega,by go_num,by rw[HNX.o,<-List.append_assoc,HLQ.o];exact RR.o.1,RR.o.2⟩
    case measure=>simp[intOf];omega
   ·have e8:(p.kind==8)=false:=ar.2 h8;have HFI:Hid (fiL p.kind f=ls (cQ f.topic)):=aa (by unfold fiL;rw[ae h8,cW]);clear h8
    go_wp2_with (at_builtin;refine UF _ rfl (.tmp 53) (.tmp 54) 80 9 rfl w2.heap.size 5 underlying80 underlying9 ku u7 _ rfl O7.o _ rfl (by have:=HFZ.o;omega) B7.o.size ?_;intro v' w8 hob hg;have B8:=aa (kz B7.o hg B7.o.size (fun g hg'=>(O7.o.block g hg').1));have O8:=aa hob;have S8:=aa (S2.o.below B8.o);clear hob hg;have kk:=(S8.o.cell 0 rfl 0).trans (cI _ _))
    go_roundw
    case rel=>
     simp only[hA]
     (repeat apply Exists.intro)
     refine⟨?_,rfl⟩;exact⟨k+1,by omega,by go_num,by rw[HNX.o,<-List.append_assoc,HLQ.o,HFI.o];exact O8.o,B8.o⟩
    case measure=>simp[intOf];omega
  ·obtain rfl:k=N:=by omega
   have O6:Hid (OB wr w2.heap.size u7 (Bg v p++p.filters.flatMap (fiL p.kind))):=aa (by
    have:=O5.o;rw[<-HN.o,GK]at this;exact this)
   clear O5;go_wp2
   go_loopw [7,69] (fun o i wq=>∃j:Nat,j<=M/\i= .int .i64 j/\OB wq w2.heap.size o (Bg v p++p.filters.flatMap (fiL p.kind)++cdL (p.codes.take j))/\Below w2.heap.size w2 wq) (fun _ i _=>M- (intOf i).toNat)
   case atStart=>exact⟨0,by omega,rfl,by rw[GZ];show OB _ _ _ (_++[]);rw[cW];exact O6.o,B5.o⟩
   case round=>
    obtain⟨j,hj,rfl,hob,hbq⟩:=hrel;have S6:=aa (S2.o.below hbq);have O7:=aa hob;have B7:=aa hbq
    clear hob hbq kk k22
    by_cases hlt2:j<M
    ·have hp:j<p.codes.length:=by rw[HM.o];exact hlt2
     obtain⟨b,o,z,hA,hb,hzz,hc⟩:=((S6.o.into 0 rfl).codes).atI hp;have hans:=Lm (G.o.codes z (iL hzz));have HNX:=aa (PN hzz);have HPT:=aa (Nd (v:=v) (p:=p) (j+1));obtain⟨y,hy,hyn⟩:=MR hans;rw[hy]at HNX;have HYN:=aa hyn;rw[HNX.o,<-List.append_assoc]at HPT;have hwb:IntKind.u8.wrap (y.toNat:Int)=(y.toNat:Int):=by have:=y.toNat_lt;rw[GM];omega
     rw[hyn]at hc;have b1:(0:Int)<=(j:Int):=by omega
     have b2:(j:Int)<(M:Int):=by omega
     clear hp hzz hans hy hyn;obtain⟨L,hL⟩:∃L,Bg v p++p.filters.flatMap (fiL p.kind)++cdL (p.codes.take j)=L:=⟨_,rfl⟩;rw[hL]at HPT O7;have HLQ:=aa hL;clear hL
     go_wp2_with (at_builtin;refine UN _ rfl (.tmp 73) (.tmp 76) 80 rfl w2.heap.size 5 underlying80 ku u7 _ rfl (O7.o.alloc _) _ _ 1 [y] rfl (Rd.lit _ _ _ rfl (ed _) rfl) (by have:=HPT.o;have:=HZ.o;rw[List.length_append]at*;omega) (B7.o.alloc B7.o.size _).size ?_;intro v'' w10 hob hg)
     have R:OB w10 w2.heap.size v'' (L++[y])/\Below w2.heap.size w2 w10:=
      ⟨hob,kz (B7.o.alloc B7.o.size _) hg (B7.o.alloc B7.o.size _).size (fun g hg'=>(O7.o.block g hg').1)⟩
     have RR:=aa R;clear hob hg R;go_wp2
     go_roundw
     case rel=>
      simp only[hA]
      (repeat apply Exists.intro)
      refine⟨?_,rfl⟩;exact⟨j+1,by omega,by go_num,by rw[HNX.o,<-List.append_assoc,HLQ.o];exact RR.o.1,RR.o.2⟩
     case measure=>simp[intOf];omega
    ·obtain rfl:j=M:=by omega
     have O8:Hid (OB wr w2.heap.size u7 (sbS v p)):=aa (by
      have:=O7.o;rw[<-HM.o,GK]at this;exact this)
     obtain⟨A,c,rfl,hrd⟩:=O8.o.rd;have hcv:=ni (P:=prog) 80 9 5 underlying80 underlying5 underlying9 c hrd;have HRD:=aa hrd;clear hrd;go_wp2;go_ret2;exact⟨by rw[HX.o];rfl,S6.o.kept⟩
theorem Fy:∀n:Fin 256,(bits BinOp.andNot IntKind.i64 (n.1:Int) 63 !=0)=decide (63<n.1)/\(bits BinOp.andNot IntKind.i64 (n.1:Int) 3 !=0)=decide (3<n.1)/\
  bits BinOp.and IntKind.i64 (n.1:Int) 3=((n.1% 4:Nat):Int)/\bits BinOp.and IntKind.i64 ((n.1:Int) / 16) 3=((n.1/ 16% 4:Nat):Int)/\
  (bits BinOp.and IntKind.i64 (n.1:Int) 4 !=0)=decide (n.1/ 4% 2=1)/\(bits BinOp.and IntKind.i64 (n.1:Int) 8 !=0)=decide (n.1/ 8% 2=1):=by decide+kernel
def dI(f:Fi):Array Value:=#[.string f.topic,.int .i64 f.qos,.bool f.noLocal,.bool f.asPub,.int .i64 f.handling]
theorem Cur.four{w:World}{g a gf:Nat}{t:ByteArray}{e:Int}(h:Cur w g t a e)(hne:gf≠g)(x1 x4 x2 x3:Value):Cur ((((w.setCell ⟨gf,1,none⟩ x1).setCell ⟨gf,4,none⟩ x4).setCell ⟨gf,2,none⟩ x2).setCell ⟨gf,3,none⟩ x3) g t a e:=
 ⟨(((h.1.other (fun e=>hne e.symm) _).other (fun e=>hne e.symm) _).other (fun e=>hne e.symm) _).other (fun e=>hne e.symm) _,h.2⟩
theorem lZ(w:World)(g gf:Nat)(x1 x4 x2 x3:Value):Mods (two g gf) w ((((w.setCell ⟨gf,1,none⟩ x1).setCell ⟨gf,4,none⟩ x4).setCell ⟨gf,2,none⟩ x2).setCell ⟨gf,3,none⟩ x3):=
 ((((Mods.refl w).set gf 1 (.inl (.inr rfl)) _).set gf 4 (.inl (.inr rfl)) _).set gf 2 (.inl (.inr rfl)) _).set gf 3 (.inl (.inr rfl)) _
theorem l8{w:World}{gf:Nat}{tp:ByteArray}(h:Bk w gf 32 (dI ⟨tp,0,false,false,0⟩))(q hd:Int)(nl ap:Bool):
  Bk ((((w.setCell ⟨gf,1,none⟩ (.int .i64 q)).setCell ⟨gf,4,none⟩ (.int .i64 hd)).setCell ⟨gf,2,none⟩ (.bool nl)).setCell ⟨gf,3,none⟩ (.bool ap)) gf 32 (dI ⟨tp,q,nl,ap,hd⟩):=
 (((h.upd 1 (.int .i64 q) (cs':=dI ⟨tp,q,false,false,0⟩) rfl).upd 4 (.int .i64 hd) (cs':=dI ⟨tp,q,false,false,hd⟩) rfl).upd 2 (.bool nl) (cs':=dI ⟨tp,q,nl,false,hd⟩) rfl).upd 3 (.bool ap) (cs':=dI ⟨tp,q,nl,ap,hd⟩) rfl
theorem wN(v:Int)(hv:v=4\/v=5)(g a:Nat)(t:ByteArray)(e:Int)(gf:Nat)(tp:ByteArray)(w:World)(h:Cur w g t a e)(hf:Bk w gf 32 (dI ⟨tp,0,false,false,0⟩))(hne:gf≠g):
  Calls prog 116 #[.int .i64 v,.pointer (some ⟨g,0,none⟩),.pointer (some ⟨gf,0,none⟩)] w fun e' w'=>
   e'= .returned (.tuple #[])/\Cur w' g t (opR v t a e).2.1 (opR v t a e).2.2/\Bk w' gf 32 (dI (vB tp (opR v t a e).1))/\Mods (two g gf) w w':=by
 have C0:=aa h;have F0:=aa hf;have NE:=aa hne
 have HO:Hid (opR v t a e=(br t a e 1,(aH t a e 1).2.1,if iU v (br t a e 1)=true then fh (aH t a e 1).2.2 7 else(aH t a e 1).2.2)):=aa rfl;have hlt:=iV t a e;clear h hf hne;go_enter func116,ntmps116
 go_wp2_with fail
 refine(dR g a t e 1 _ C0.o (by decide)).mono ?_;rintro e' w1 ⟨rfl,hc,hm⟩;have C1:=aa hc;have F1:=aa (F0.o.mods (Mods.of_grown (S:=fun i=>i=g) hm rfl) (fun e=>NE.o e));have M1:Hid (Mods (two g gf) w w1):=aa (Mods.of_grown hm (.inl rfl));clear hc hm;generalize br t a e 1=n at*;obtain⟨R,hR⟩:∃R,aH t a e 1=R:=⟨_,rfl⟩;rw[hR]at HO C1;clear hR;obtain⟨T,a1,e1⟩:=R;simp only at HO C1⊢;obtain⟨o1,o2,o3,o4,o5,o6⟩:=Fy ⟨n,hlt⟩;simp only at o1 o2 o3 o4 o5 o6;rcases hv with rfl| rfl
 ·have hN:Hid (decide (3<n)=iU 4 n):=aa (by unfold iU;rw[au rfl,aL,eG,Bool.or_eq_true];simp only[cH];omega)
  by_cases hb:3<n
  ·have HB:Hid (iU 4 n=true):=aa (by rw[<-hN.out,au hb]);rw[au hb]at o2;rw[HB.o,if_pos rfl]at HO;clear hb
   go_wp2_with fail
   refine(cB g a1 t e1 7 _ C1.o).mono ?_;rintro e' w2 ⟨rfl,hc,hm⟩;have C2:Hid (Cur w2 g t a1 (fh e1 7)):=aa hc;have F2:=aa (F1.o.mods (Mods.of_grown (S:=fun i=>i=g) hm rfl) (fun e=>NE.o e));have M2:Hid (Mods (two g gf) w w2):=aa (M1.o.trans (Mods.of_grown hm (.inl rfl)));clear hc hm;obtain⟨⟨c0,c1,c2⟩,f0,f1,f2⟩:=C2.o.cells;have q0:=F2.o.cell 0;have q1:=F2.o.cell 1;have q2:=F2.o.cell 2;have q3:=F2.o.cell 3;have q4:=F2.o.cell 4
   have r0:=F2.o.free 0;have r1:=F2.o.free 1;have r2:=F2.o.free 2;have r3:=F2.o.free 3;have r4:=F2.o.free 4
   simp only[dI,ay,aE,aB]at q0 q1 q2 q3 q4;go_wp2
   go_end0
   rw[HO.o];refine⟨rfl,?_,?_,?_⟩
   ·exact C2.o.four (fun e=>NE.o e) _ _ _ _
   ·exact l8 F2.o _ _ _ _
   ·exact M2.o.trans (lZ _ _ _ _ _ _ _)
  ·have HB:Hid (iU 4 n=false):=aa (by rw[<-hN.out,ah hb]);rw[ah hb]at o2;rw[HB.o,ae (by decide)]at HO;clear hb;obtain⟨⟨c0,c1,c2⟩,f0,f1,f2⟩:=C1.o.cells;have q0:=F1.o.cell 0;have q1:=F1.o.cell 1;have q2:=F1.o.cell 2;have q3:=F1.o.cell 3;have q4:=F1.o.cell 4
   have r0:=F1.o.free 0;have r1:=F1.o.free 1;have r2:=F1.o.free 2;have r3:=F1.o.free 3;have r4:=F1.o.free 4
   simp only[dI,ay,aE,aB]at q0 q1 q2 q3 q4;go_wp2
   go_end0
   rw[HO.o];refine⟨rfl,?_,?_,?_⟩
   ·exact C1.o.four (fun e=>NE.o e) _ _ _ _
   ·exact l8 F1.o _ _ _ _
   ·exact M1.o.trans (lZ _ _ _ _ _ _ _)
 ·have hN:Hid (decide (63<n)=iU 5 n):=aa (by unfold iU;rw[show decide ((5:Int)=4)=false from rfl,bj,Bool.or_false])
  by_cases hb:63<n
  ·have HB:Hid (iU 5 n=true):=aa (by rw[<-hN.out,au hb]);rw[au hb]at o1;rw[HB.o,if_pos rfl]at HO;clear hb
   go_wp2_with fail
   refine(cB g a1 t e1 7 _ C1.o).mono ?_;rintro e' w2 ⟨rfl,hc,hm⟩;have C2:Hid (Cur w2 g t a1 (fh e1 7)):=aa hc;have F2:=aa (F1.o.mods (Mods.of_grown (S:=fun i=>i=g) hm rfl) (fun e=>NE.o e));have M2:Hid (Mods (two g gf) w w2):=aa (M1.o.trans (Mods.of_grown hm (.inl rfl)));clear hc hm;obtain⟨⟨c0,c1,c2⟩,f0,f1,f2⟩:=C2.o.cells;have q0:=F2.o.cell 0;have q1:=F2.o.cell 1;have q2:=F2.o.cell 2;have q3:=F2.o.cell 3;have q4:=F2.o.cell 4
   have r0:=F2.o.free 0;have r1:=F2.o.free 1;have r2:=F2.o.free 2;have r3:=F2.o.free 3;have r4:=F2.o.free 4
   simp only[dI,ay,aE,aB]at q0 q1 q2 q3 q4;go_wp2
   go_end0
   rw[HO.o];refine⟨rfl,?_,?_,?_⟩
   ·exact C2.o.four (fun e=>NE.o e) _ _ _ _
   ·exact l8 F2.o _ _ _ _
   ·exact M2.o.trans (lZ _ _ _ _ _ _ _)
  ·have HB:Hid (iU 5 n=false):=aa (by rw[<-hN.out,ah hb]);rw[ah hb]at o1;rw[HB.o,ae (by decide)]at HO;clear hb;obtain⟨⟨c0,c1,c2⟩,f0,f1,f2⟩:=C1.o.cells;have q0:=F1.o.cell 0;have q1:=F1.o.cell 1;have q2:=F1.o.cell 2;have q3:=F1.o.cell 3;have q4:=F1.o.cell 4
   have r0:=F1.o.free 0;have r1:=F1.o.free 1;have r2:=F1.o.free 2;have r3:=F1.o.free 3;have r4:=F1.o.free 4
   simp only[dI,ay,aE,aB]at q0 q1 q2 q3 q4;go_wp2
   go_end0
   rw[HO.o];refine⟨rfl,?_,?_,?_⟩
   ·exact C1.o.four (fun e=>NE.o e) _ _ _ _
   ·exact l8 F1.o _ _ _ _
   ·exact M1.o.trans (lZ _ _ _ _ _ _ _)
theorem oP:(prog.info? 32).map (fun i=>(i.zero,i.size,i.bytes))=some (some (.agg #[.string ⟨#[]⟩,.int .i64 0,.bool false,.bool false,.int .i64 0]),5,40):=by kernel_rfl
theorem Mv{p:Pk}(h:Ie p=true):p.codes.length<=60/\p.filters.length<=60/\p.props.length<=1010/\p.will.props.length<=1010:=by
 unfold Ie Ig at h;simp only[eh,Fx]at h;omega
end
end Go.Proofs.YtbdgkkmbnahgiaaGreatDoor
