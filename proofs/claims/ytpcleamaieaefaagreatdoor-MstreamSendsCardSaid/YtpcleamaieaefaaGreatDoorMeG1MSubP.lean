/- A part of what the laws stand on: MSubP, SubD, OwnK, SubJ, MqA, HdC, MsP, OpenK, MqH. -/
import Derived.Test.YtpcleamaieaefaaGreatDoorMeG1MRef
import Derived.Test.YtpcleamaieaefaaGreatDoorMeG0MsP
set_option maxRecDepth 10000
set_option maxHeartbeats 8000000
namespace Go.Proofs.YtpcleamaieaefaaGreatDoor
open Go.RowKit
theorem Ly (f:Fi):0≤BS f∧BS f<64:=by
 have h:∀b n,0≤n→0≤pc b n∧pc b n≤n:=fun b n hn=>by unfold pc;split<;>omega
 have h1:=h f.noLocal 4 (by decide);have h2:=h f.asPub 8 (by decide)
 unfold BS;omega
theorem MP {v k:Int}:∀ {l:List Fi},fiE v k l=0↔∀f∈l,gj f.topic=true∧nT v k f=true
 | []=>by simp[fiE]
 | f :: l=>by
   have ih:=MP (v:=v) (k:=k) (l:=l);unfold fiE;cases h1:gj f.topic
   ·simp[h1]
   ·cases h2:nT v k f
    ·simp[h1,h2]
    ·simp[h1,h2,ih]
theorem MQ {v k:Int}:∀ {l:List Int},cdE v k l=0↔∀c∈l,xF v k c=true
 | []=>by simp[cdE]
 | c :: l=>by
   have ih:=MQ (v:=v) (k:=k) (l:=l);unfold cdE;cases h1:xF v k c
   ·simp[h1]
   ·simp[h1,ih]
structure SbOk (v:Int) (p:Pk):Prop where
 known:ir v p.kind=true
 id1:1≤p.id
 id2:p.id≤65535
 old:v=4→p.props=[]
 have':lj v p=true
 same:p=sbQ v p
 props:(aM p.kind p.props).2=0
 filters:∀f∈p.filters,gj f.topic=true∧nT v p.kind f=true
 codes:∀c∈p.codes,xF v p.kind c=true
theorem NU {v:Int} {p:Pk} (h:sbE v p=0):SbOk v p:=by
 unfold sbE at h;cases ha:xY v p
 ·rw[ha,if_pos rfl]at h;exact absurd h (by decide)
 rw[ha,ae (by decide)]at h
 by_cases hb:(aM p.kind p.props).2=0
 rotate_left
 ·rw[if_pos hb]at h;exact absurd h hb
 rw[ae (fun x=>x hb)]at h
 by_cases hf:fiE v p.kind p.filters=0
 rotate_left
 ·rw[if_pos hf]at h;exact absurd h hf
 rw[ae (fun x=>x hf)]at h;unfold xY eH at ha;simp only[eh,Bool.not_eq_true',Bool.or_eq_false_iff,cH,Ip,Kz]at ha;obtain⟨h1,⟨h2,h3,h4⟩,h5,h6⟩:=ha;refine⟨h1,by omega,by omega,fun x=>?_,h5,h6,hb,MP.1 hf,MQ.1 h⟩;rcases h4 with h4| h4
 ·exact absurd x h4
 ·exact aF (by omega)
theorem Iz {v:Int} {p:Pk} (h:p=sbQ v p) (ha:jm p.kind=true):p.codes=[]:=by
 rw[h];unfold sbQ;rw[if_pos ha];rfl
theorem Ib {v:Int} {p:Pk} (h:p=sbQ v p) (ha:jm p.kind=false):p.filters=[]:=by
 rw[h];unfold sbQ;rw[ae (by rw[ha];decide)];split<;>rfl
theorem Nw {n:Int} (h:jZ n=true):n=0∨n=1∨n=2:=by
 unfold jZ at h;simp at h;omega
theorem Pb:∀(q h:Fin 3) (nl ap:Bool),vB ⟨#[]⟩ (BS ⟨⟨#[]⟩,((q.1:Nat):Int),nl,ap,((h.1:Nat):Int)⟩).toNat=⟨⟨#[]⟩,((q.1:Nat):Int),nl,ap,((h.1:Nat):Int)⟩:=by decide+kernel
theorem Pa:∀q:Fin 3,(BS ⟨⟨#[]⟩,((q.1:Nat):Int),false,false,0⟩).toNat<4:=by decide+kernel
theorem LC {n:Int} (h:jZ n=true):∃q:Fin 3,n=((q.1:Nat):Int):=by
 rcases Nw h with h| h| h
 ·exact⟨0,h⟩
 ·exact⟨1,h⟩
 ·exact⟨2,h⟩
theorem LO {t:ByteArray} {q h:Int} (hq:jZ q=true) (hh:jZ h=true) (nl ap:Bool):vB t (BS ⟨t,q,nl,ap,h⟩).toNat=⟨t,q,nl,ap,h⟩:=by
 obtain⟨q,rfl⟩:=LC hq;obtain⟨h,rfl⟩:=LC hh;have e:=Pb q h nl ap;have e1:BS ⟨t,((q.1:Nat):Int),nl,ap,((h.1:Nat):Int)⟩=BS ⟨⟨#[]⟩,((q.1:Nat):Int),nl,ap,((h.1:Nat):Int)⟩:=rfl;rw[e1];unfold vB at e⊢;rw[Fi.mk.injEq]at e⊢;exact⟨rfl,e.2⟩
theorem Oi {v:Int} {f:Fi} (h:nT v 8 f=true):iU v (BS f).toNat=false∧vB f.topic (BS f).toNat=f:=by
 unfold nT at h;rw[ae (by decide)]at h;have hlt:=Ly f;obtain⟨t,q,nl,ap,hd⟩:=f
 by_cases h4:v=4
 ·rw[if_pos h4]at h;simp only[eh]at h;obtain⟨h1,h2⟩:=h;have h1:=aR h1;rw[Fi.mk.injEq]at h1;obtain⟨-,-,rfl,rfl,rfl⟩:=h1;refine⟨?_,LO h2 rfl _ _⟩;obtain⟨q,rfl⟩:=LC h2;have e:=Pa q;have e1:BS ⟨t,((q.1:Nat):Int),false,false,0⟩=BS ⟨⟨#[]⟩,((q.1:Nat):Int),false,false,0⟩:=rfl;unfold iU;rw[e1];simp only[Bool.or_eq_false_iff,Kz,Ip];exact⟨by omega,.inr (by omega)⟩
 ·rw[ae h4]at h;simp only[eh]at h;obtain⟨h1,h2,-⟩:=h;refine⟨?_,LO h1 h2 _ _⟩;unfold iU;rw[ah h4,ah (by omega)];rfl
theorem OD {l r:List UInt8} {a:Nat} {b:UInt8} (h:l.drop a=b :: r):l.drop (a+1)=r:=by rw[←et,h];rfl
theorem Li {n:Nat} (h:n<256):(UInt8.ofNat n).toNat=n:=by rw[UInt8.toNat_ofNat'];omega
theorem NC {v k:Int} {t:ByteArray} {a:Nat} {f:Fi} {rest:List UInt8} (ha:a≤t.size) (hk:k=8∨k=10) (hv:bN f.topic=true) (ho:nT v k f=true) (h:(ls t).drop a=fiL k f++rest):
  fiR v k t a=(f,a+(fiL k f).length,0)∧a+(fiL k f).length≤t.size∧(ls t).drop (a+(fiL k f).length)=rest:=by
 have hl:=congrArg List.length h;rw[bU,List.length_append,aN]at hl;have hpos:2≤(fiL k f).length:=by unfold fiL;rw[List.length_append,si,List.length_append,fM];omega
 refine⟨?_,by omega,by rw[←et,h,GU rfl]⟩;unfold fiL at h;rw[si,List.append_assoc,List.append_assoc]at h;obtain⟨h1,h2,h3⟩:=Jg ha hv h;obtain⟨g1,g2⟩:=Fq ha 0;have hr:rtC t a 0=(f.topic,a+2+f.topic.size,0):=by rw[g2 (by rw[h1]),h1]
 have hlen:(fiL k f).length=2+f.topic.size+(if k=8 then 1 else 0):=by
  unfold fiL;rw[List.length_append,si,List.length_append,fM,aN]
  split<;>rfl
 rw[hlen];unfold fiR;rw[hr];rcases hk with rfl| rfl
 ·rw[if_pos rfl,if_pos rfl];rw[if_pos rfl]at h3;obtain⟨o1,o2⟩:=Oi ho;have hn:=Ly f;have hnum:br t (a+2+f.topic.size) 0 1=(BS f).toNat:=by rw[tf h3,Li (by omega)]
  have htk:aH t (a+2+f.topic.size) 0 1=(t.extract (a+2+f.topic.size) (a+2+f.topic.size+1),a+2+f.topic.size+1,0):=dZ (k:=1) (Fz h3);unfold opR;rw[hnum,htk,o1,ae (by decide),o2];simp only;rw[show a+2+f.topic.size+1=a+(2+f.topic.size+1) by omega]
 ·rw[ae (by decide),ae (by decide)];simp only;have hp:f=⟨f.topic,0,false,false,0⟩:=by
   unfold nT at ho;rw[if_pos rfl]at ho;simp only[eh]at ho;have h1:=aR ho.1;have h2:=aR ho.2;rw[h2]at h1;exact h1
  rw[←hp,show a+2+f.topic.size=a+(2+f.topic.size+0) by omega]
theorem Oo {v k:Int} {t:ByteArray} (hk:k=8∨k=10):∀(l:List Fi) (n a:Nat) (fi:List Fi),l.length<n→a≤t.size→(∀f∈l,bN f.topic=true∧nT v k f=true)→(ls t).drop a=l.flatMap (fiL k)→lsR v k t n a 0 fi []=(fi++l,[],t.size,0)
 | [],n+1,a,fi,_,ha,_,h=>by
   have hl:=congrArg List.length h;rw[bU,aN]at hl;simp at hl;unfold lsR;rw[if_pos (.inr (by omega)),show a=t.size by omega];simp
 | f :: l,n+1,a,fi,hn,ha,hf,h=>by
   rw[cF]at h;have hfi:=hf f (.head _);obtain⟨h1,h2,h3⟩:=NC ha hk hfi.1 hfi.2 h;have hpos:2≤(fiL k f).length:=by unfold fiL;rw[List.length_append,si,List.length_append,fM];omega
   unfold lsR;rw[ae (by omega),if_pos (show jm k=true from au hk),h1];simp only;rw[Oo hk l n _ (fi++[f]) (by simp at hn;omega) h2 (fun g hg=>hf g (.tail _ hg)) h3];simp
theorem Oq {v k:Int} {t:ByteArray} (hk:jm k=false):∀(l:List Int) (n a:Nat) (cd:List Int),l.length<n→a≤t.size→(∀c∈l,0≤c∧c<256)→(ls t).drop a=cdL l→lsR v k t n a 0 [] cd=([],cd++l,t.size,0)
 | [],n+1,a,cd,_,ha,_,h=>by
   have hl:=congrArg List.length h;rw[bU,aN]at hl;simp[cdL]at hl;unfold lsR;rw[if_pos (.inr (by omega)),show a=t.size by omega];simp
 | c :: l,n+1,a,cd,hn,ha,hf,h=>by
   have hc:=hf c (.head _);have h':(ls t).drop a=UInt8.ofNat c.toNat :: cdL l:=h;have hlt:=Fz h';unfold lsR;rw[ae (by omega),ae (by rw[hk];decide),tf h',Li (by omega)];rw[Oq hk l n _ _ (by simp at hn;omega) (by omega) (fun g hg=>hf g (.tail _ hg)) (OD h')];rw[show((c.toNat:Nat):Int)=c by omega];simp
theorem JI {s:ByteArray} (h:gj s=true):bN s=true:=by
 unfold gj jY at h;simp only[eh]at h;exact h.1.2
theorem Lm {v k c:Int} (h:xF v k c=true):0≤c∧c<256:=by
 unfold xF at h
 split at h
 ·unfold tq at h;simp at h;omega
 ·exact n6 h
theorem Lf (k:Int):∀l:List Fi,l.length≤(l.flatMap (fiL k)).length
 | []=>by simp
 | f :: l=>by
   have ih:=Lf k l;have hpos:2≤(fiL k f).length:=by unfold fiL;rw[List.length_append,si,List.length_append,fM];omega
   rw[cF,List.length_append,bM];omega
theorem Nf {v:Int} {p:Pk} (x:sbE v p=0) (hn:∀q∈p.props,q.n<4294967296) {s:ByteArray} (hs:ls s=sbS v p):sbR v p.kind s=(p,0):=by
 have o:=NU x;have h0:(ls s).drop 0=da p.id.toNat 2++(gP v p.kind p.props++(p.filters.flatMap (fiL p.kind)++cdL p.codes)):=by
  rw[cS,hs];unfold sbS Bg;simp[List.append_assoc]
 have hl:=congrArg List.length h0;rw[bU,List.length_append,fM,aN]at hl;have i1:=o.id1;have i2:=o.id2
 have hnum:br s 0 0 2=p.id.toNat:=by rw[show((2:Int))=((2:Nat):Int)from rfl,sc (k:=2) h0 (fM _ _) (by omega),H7 _ (by omega)]
 have htk:aH s 0 0 2=(s.extract 0 2,2,0):=dZ (k:=2) (by omega);have h1:(ls s).drop 2=gP v p.kind p.props++(p.filters.flatMap (fiL p.kind)++cdL p.codes):=by
  have:=GU (r:=gP v p.kind p.props++(p.filters.flatMap (fiL p.kind)++cdL p.codes)) (fM p.id.toNat 2);rw[←h0,cS]at this;exact this
 obtain⟨g1,g2,g3⟩:=JG (v:=v) (k:=p.kind) (l:=p.props) (by omega) o.old o.props hn h1;have hpr:lh v p.kind s=(p.props,2+(gP v p.kind p.props).length,0):=by
  unfold lh;rw[htk];exact g1
 have hls:li v p.kind s=(p.filters,p.codes,s.size,0):=by
  unfold li;rw[hpr];simp only;have hz:=congrArg List.length g3;rw[bU,List.length_append,aN]at hz;rcases ue o.known with ⟨ha,hk⟩ | ⟨ha,hk⟩
  ·have hc:=Iz o.same ha;rw[hc]at g3⊢;rw[show cdL []=[]from rfl,cW]at g3;have:=Lf p.kind p.filters;rw[Oo hk p.filters _ _ [] (by omega) g2 (fun f hf=>⟨JI (o.filters f hf).1,(o.filters f hf).2⟩) g3];rfl
  ·have hc:=Ib o.same ha;rw[hc]at g3⊢;rw[List.flatMap_nil,dX]at g3;have:(cdL p.codes).length=p.codes.length:=eD ..;rw[Oq ha p.codes _ _ [] (by omega) g2 (fun c hc=>Lm (o.codes c hc)) g3];rfl
 have hfull:jj v p.kind s=p:=by
  unfold jj;rw[hnum,hpr,hls];unfold jf;simp only;rw[show((p.id.toNat:Nat):Int)=p.id by omega];rcases ue o.known with ⟨ha,hk⟩ | ⟨ha,hk⟩
  ·have hc:=Iz o.same ha;have hq:=o.same;unfold sbQ at hq;rw[if_pos ha]at hq;rw[hc];exact hq.symm
  ·have hc:=Ib o.same ha;have hq:=o.same;unfold sbQ at hq;rw[ae (by rw[ha];decide)]at hq;rw[hc]
   by_cases hs:pP v p.kind=true
   ·rw[if_pos hs]at hq;have:p.codes=[]:=by rw[hq];rfl
    rw[this];exact hq.symm
   ·rw[ae hs]at hq;exact hq.symm
 unfold sbR;rw[ae (by rw[o.known];decide),hls,hfull,x];simp
end Go.Proofs.YtpcleamaieaefaaGreatDoor
namespace Go.Proofs.YtpcleamaieaefaaGreatDoor
open Go.RowKit
attribute [local go_sem ↓] bD bF bH bI bu
attribute [local go_sem] bc aD bh bg bK bJ bd aY be aO ax cI dC dB dt dj di dA dr dp dn bW co bO bZ bX cz cy cw cu ct cC cn bS bP bR
theorem NT {v:Int} {p:Pk} (k:Nat):(Bg v p++(p.filters.take k).flatMap (fiL p.kind)).length≤(sbS v p).length:=by
 unfold sbS;have:(p.filters.flatMap (fiL p.kind)).length=((p.filters.take k).flatMap (fiL p.kind)).length+((p.filters.drop k).flatMap (fiL p.kind)).length:=by
  rw[←List.length_append,←fR,cg]
 rw[List.length_append,List.length_append,List.length_append];omega
theorem Nd {v:Int} {p:Pk} (k:Nat):(Bg v p++p.filters.flatMap (fiL p.kind)++cdL (p.codes.take k)).length≤(sbS v p).length:=by
 unfold sbS cdL;simp only[List.length_append,eD,cY];omega
theorem PK {k:Int} {l:List Fi} {i:Nat} {f:Fi} (hf:l[i]? =some f):(l.take (i+1)).flatMap (fiL k)=(l.take i).flatMap (fiL k)++fiL k f:=by
 rw[List.take_add_one,hf,fR];simp
theorem PN {l:List Int} {i:Nat} {c:Int} (hc:l[i]? =some c):cdL (l.take (i+1))=cdL (l.take i)++[UInt8.ofNat c.toNat]:=by
 unfold cdL;rw[List.take_add_one,hc,Ii];simp
theorem MR {c:Int} (h:0≤c∧c<256):∃b:UInt8,UInt8.ofNat c.toNat=b∧c=(b.toNat:Int):=⟨_,rfl,by rw[UInt8.toNat_ofNat'];omega⟩
theorem Mv {p:Pk} (h:Ie p=true):p.codes.length≤60∧p.filters.length≤60∧p.props.length≤1010∧p.will.props.length≤1010:=by
 unfold Ie Ig at h;simp only[eh,Fx]at h;omega
theorem MN (k:Int):∀l:List Fi,(l.flatMap (fiL k)).length≤ft l+3*l.length
 | []=>ac _
 | f :: l=>by
   have h:=MN k l;have h1:(fiL k f).length≤f.topic.size+3:=by
    unfold fiL;rw[List.length_append,aN,eN]
    split
    ·simp
    ·simp
   have h2:ft (f :: l)=f.topic.size+ft l:=by unfold ft;simp
   rw[cF,List.length_append,bM,h2];omega
theorem JM (v k:Int) (l:List Pr):(gP v k l).length≤131075004:=by
 unfold gP
 split
 ·simp
 ·by_cases h:(aM k l).2=0
  ·exact(G6 k l h).2
  ·rw[Ix k l h];simp
theorem Mu (v:Int) {p:Pk} (h:Ie p=true):(sbS v p).length≤132000000:=by
 have hl:=Mv h;unfold Ie at h;simp only[eh,Fx]at h;have h1:=MN p.kind p.filters;have h2:=JM v p.kind p.props;unfold sbS Bg cdL;simp only[List.length_append,eD,fM];omega
end Go.Proofs.YtpcleamaieaefaaGreatDoor
namespace Go.Proofs.YtpcleamaieaefaaGreatDoor
open Go.RowKit
def mqB (v:Int) (p:Pk):ByteArray×Int:=if mqE v p=0 then(mqS v p,0)else(⟨#[]⟩,mqE v p)
theorem Ol {v:Int} {p:Pk} (h:mqE v p=0):ba v=true∧dS v p.kind=true∧chE v p=0∧(chB v p).1.size≤268435455:=by
 unfold mqE at h
 split at h
 ·cases h
 rename_i h1
 split at h
 ·cases h
 rename_i h2
 split at h
 ·rename_i h3;exact absurd h h3
 rename_i h3
 split at h
 ·cases h
 rename_i h4;exact⟨by simpa using h1,by simpa using h2,il.1 h3,by omega⟩
theorem Ma {v:Int} {p:Pk} (h1:ba v=true) (h2:dS v p.kind=true) (h3:chE v p=0):eM v p=(mqF p,0)∧ff v p.kind (mqF p)=0:=by
 by_cases hk:p.kind=3
 ·have hp:ii v p=0:=by
   unfold chE at h3;rwa[ae (by omega),if_pos hk]at h3
  have hb:=(zB hp).flags;have hf:mqF p=ke p:=if_pos hk;refine⟨?_,nf.2 ⟨h1,h2,?_⟩⟩
  ·unfold eM;rw[ae (by rw[h1];decide),ae (by rw[h2];decide),ae (by omega),ae (by rw[hb];decide),hf]
  ·rw[hf,hk,KO];exact(Ks hb).1
 ·have hf:mqF p=gg p.kind:=ae hk;refine⟨?_,nf.2 ⟨h1,h2,?_⟩⟩
  ·unfold eM;rw[ae (by rw[h1];decide),ae (by rw[h2];decide),if_pos hk,hf]
  ·unfold eu;rw[ae hk,hf];simp
theorem OP {v:Int} {p:Pk} (h:chE v p=0) (hn:∀q∈p.props,q.n<4294967296) (hw:∀q∈p.will.props,q.n<4294967296) (n:Nat):chR v ⟨p.kind,mqF p,n⟩ (chB v p).1=(p,0):=by
 unfold chE at h;unfold chR chB;dsimp only
 split
 ·rename_i h1;rw[if_pos h1]at h;exact MF h hn hw
 rename_i h1;rw[ae h1]at h
 split
 ·rename_i h2;rw[if_pos h2]at h
  unfold Gf mqF;rw[if_pos h,if_pos h2];exact Nq h hn p.payload
 rename_i h2;rw[ae h2]at h
 split
 ·rename_i h3;rw[if_pos h3]at h
  unfold Ga;rw[if_pos h];exact MJ (AJ h) hn (jo _)
 rename_i h3;rw[ae h3]at h
 split
 ·rename_i h4;rw[if_pos h4]at h
  unfold sbB;rw[if_pos h];exact Nf h hn (jo _)
 rename_i h4;rw[ae h4]at h
 unfold FY;rw[if_pos h];exact Mz (Ap h) hn (jo _)
theorem L6 {s:ByteArray} {A B R:List UInt8} (h:ls s=A++(B++R)):s.extract A.length (A.length+B.length)=⟨B.toArray⟩:=by
 apply eX;rw[db,h,List.drop_left,List.take_left,jo]
theorem Lb {v:Int} {p:Pk} (h:mqE v p=0) (hn:∀q∈p.props,q.n<4294967296) (hw:∀q∈p.will.props,q.n<4294967296) {s:ByteArray} {R:List UInt8} (hs:ls s=ls (mqS v p)++R):
  mqR v s=(p,(mqS v p).size,0):=by
 obtain⟨h1,h2,h3,h4⟩:=Ol h;have hc:=(Ma h1 h2 h3).2;rw[Cg,List.append_assoc]at hs;have hr:=Ab hc h4 hs;have hx:s.extract (hdS p.kind (mqF p) (chB v p).1.size).length ((hdS p.kind (mqF p) (chB v p).1.size).length+(chB v p).1.size)=(chB v p).1:=by
  have:=L6 hs;rw[aN,Ck]at this;exact this
 have hle:¬s.size<(hdS p.kind (mqF p) (chB v p).1.size).length+(chB v p).1.size:=by
  have:=congrArg List.length hs;rw[aN,List.length_append,List.length_append,aN]at this;omega
 unfold mqR;rw[hr,ae (fun x=>x rfl),ae hle,hx,OP h3 hn hw,if_pos rfl,Cf]
def MV (v:Int) (p:Pk):Prop:=8≤p.kind∧p.kind≤11→(sbS v p).length≤140737488351232
theorem LD (v:Int) {p:Pk} (h:Ie p=true):MV v p:=fun _=>aC (Mu v h) (by decide)
def hdB (v k f:Int) (n:Nat):List UInt8×Int:=if ff v k f=0 then(hdS k f n,0)else([],ff v k f)
theorem OV {v most:Int} {p:Pk} (h:mqE v p=0) (hn:∀q∈p.props,q.n<4294967296) (hw:∀q∈p.will.props,q.n<4294967296) (hm:((mqS v p).size:Int)≤most) {c:Nat} (hc:c<(mqS v p).size):(smN v most ((mqS v p).extract 0 c)).2.2=3:=by
 have hf:mqR v (mqS v p)=(p,(mqS v p).size,0):=Lb h hn hw (R:=[]) (cW _).symm;have h1:(hdR v (mqS v p)).2.2=0:=by
  have:=hf;unfold mqR at this
  split at this
  ·rename_i h1;simp only[bG]at this;exact absurd this.2.2 h1
  ·rename_i h1;exact il.1 h1
 have hz:hdZ v (mqS v p)=(mqS v p).size:=by
  have:=hf;unfold mqR at this;rw[ae (fun x=>x h1)]at this
  split at this
  ·simp at this
  split at this
  ·simp only[bG]at this;exact this.2.1
  ·rename_i h2 h3;simp only[bG]at this;have h4:=this.2.2
   split at h4
   ·cases h4
   ·exact absurd h4 h3
 by_cases h3:(hdR v ((mqS v p).extract 0 c)).2.2=3
 ·exact nG (.inl h3)
 ·have hs:(mqS v p).extract 0 c++(mqS v p).extract c (mqS v p).size=mqS v p:=eX (by rw[fe,ix,m9,cg]);have hh:=nd (u:=(mqS v p).extract c (mqS v p).size) h3;rw[hs]at hh;have hz2:hdZ v ((mqS v p).extract 0 c)=(mqS v p).size:=by unfold hdZ at hz⊢;rw[←hh];exact hz
  refine nG (.inr ⟨by rw[←hh];exact h1,by rw[hz2];exact hm,?_⟩);rw[hz2,aj];omega
theorem M7 {v most:Int} {p:Pk} (h:mqE v p=0) (hn:∀q∈p.props,q.n<4294967296) (hw:∀q∈p.will.props,q.n<4294967296) (hm:((mqS v p).size:Int)≤most):smN v most (mqS v p)=(p,(mqS v p).size,0):=by
 have hf:mqR v (mqS v p)=(p,(mqS v p).size,0):=Lb h hn hw (R:=[]) (cW _).symm;have h1:(hdR v (mqS v p)).2.2=0:=by
  have:=hf;unfold mqR at this
  split at this
  ·rename_i h1;simp only[bG]at this;exact absurd this.2.2 h1
  ·rename_i h1;exact il.1 h1
 have hz:hdZ v (mqS v p)=(mqS v p).size:=by
  have:=hf;unfold mqR at this;rw[ae (fun x=>x h1)]at this
  split at this
  ·simp at this
  split at this
  ·simp only[bG]at this;exact this.2.1
  ·rename_i h2 h3;simp only[bG]at this;have h4:=this.2.2
   split at h4
   ·cases h4
   ·exact absurd h4 h3
 have he:(mqS v p).extract 0 (mqS v p).size=mqS v p:=eX (by rw[ix,bt (by rw[aN];exact ac _)]);rw[nI,ae (fun x=>x h1),hz,ae (by omega),ae (Nat.lt_irrefl _),he,hf]
end Go.Proofs.YtpcleamaieaefaaGreatDoor
namespace Go.Proofs.YtpcleamaieaefaaGreatDoor
open Go.ChangeShapes Go.WideShapes Go.ChangeAt Go.RowKit Go.Deep
set_option maxRecDepth 100000
section
variable {H:Type} {enc:TypeId×Value→H} {P:Program} {w:World} {base:Nat} {spare:Nat→Bool} {held:Bool}
end
section
variable {H:Type} {enc:TypeId×Value→H} {w:World} {base:Nat} {spare:Nat→Bool} {held:Bool}
theorem Pc {n:Nat} {cs:List Value} {D:DataW H} {Pl:List MemPlace} (h:DataW.trod enc Tryz.prog w base spare held n 32 cs=some (D,Pl)) (hs:fu Tryz.prog 32 D):∃f,cs=fiC f∧f.topic.size≤140737488351232:=by
 obtain⟨xs,n',rfl,hx,hlen,hxl,hf⟩:=Iy Tryz.underlying32 h;simp only[bG]at hx;obtain⟨rfl,rfl⟩:=hx;have hc4:Tryz.prog.cellsOf 32=5:=by kernel_rfl
 rw[hc4]at hlen
 match cs,hlen with
 | [c0,c1,c2,c3,c4],_=>
   match xs,hxl with
   | [y0,y1,y2,y3,y4],_=>
     have h0:=vz hf 0 (t:=9) (o:=0) (k:=1) (by kernel_rfl);have h1:=vz hf 1 (t:=3) (o:=1) (k:=1) (by kernel_rfl);have h2:=vz hf 2 (t:=4) (o:=2) (k:=1) (by kernel_rfl);have h3:=vz hf 3 (t:=4) (o:=3) (k:=1) (by kernel_rfl);have h4:=vz hf 4 (t:=3) (o:=4) (k:=1) (by kernel_rfl);obtain⟨z0,e0,rfl,_⟩:=GH Tryz.underlying9 h0;obtain⟨z1,e1,rfl,_⟩:=GB Tryz.underlying3 h1;obtain⟨z2,e2,rfl⟩:=GN Tryz.underlying4 h2;obtain⟨z3,e3,rfl⟩:=GN Tryz.underlying4 h3;obtain⟨z4,e4,rfl,_⟩:=GB Tryz.underlying3 h4;simp only[cS,ji,GG,GZ,gY,Hj]at e0 e1 e2 e3 e4;subst e0 e1 e2 e3 e4;exact⟨⟨z0,z1,z2,z3,z4⟩,rfl,(hs.field Tryz.underlying32 (i:=0) rfl rfl).text⟩
theorem PH (l:List Int):l.flatMap (fun z=>[Value.int .i64 z])=iv l:=by
 induction l with
 | nil=>rfl
 | cons z l ih=>simp only[cF,ih];rfl
theorem Mr {fuel:Nat} {cs:List Value} {d:DataW H} {ps:List MemPlace} (h:DataW.trod enc Tryz.prog w base spare held fuel 26 cs=some (d,ps)) (hs:fu Tryz.prog 26 d) (hlt:∀x∈ps,x.block<w.heap.size):
  ∃(A:Option Addr) (l:List Int) (c:Nat),cs=[.slice A l.length c]∧Rd w w.heap.size 1 A l.length (iv l)∧l.length≤140737488351232∧l.length≤c:=by
 obtain⟨A,l,c,h1,h2,h3,h4,h5,h6⟩:=rX (X:=Int) (k:=1) (fun z=>[Value.int .i64 z]) (fun _=>rfl) (by omega) Tryz.underlying26 (by kernel_rfl) (fun _=>True)
  (fun n cs D Pl h hs _=>by obtain⟨z,rfl,_⟩:=GB Tryz.underlying3 h;exact⟨z,rfl,trivial⟩) h hs hlt
 rw[PH]at h2;refine⟨A,l,c,h1,h2,?_,h5⟩;have hb:Tryz.prog.bytesOf 3=8:=by kernel_rfl
 rw[hb,reachBytes]at h4;omega
theorem LB {fuel:Nat} {cs:List Value} {d:DataW H} {ps:List MemPlace} (h:DataW.trod enc Tryz.prog w base spare held fuel 27 cs=some (d,ps)) (hs:fu Tryz.prog 27 d) (hlt:∀x∈ps,x.block<w.heap.size):
  ∃(A:Option Addr) (l:List Fi) (c:Nat),cs=[.slice A l.length c]∧Rd w w.heap.size 5 A l.length (fis l)∧(∀f∈l,f.topic.size≤140737488351232)∧l.length≤140737488351232∧l.length≤c:=by
 obtain⟨A,l,c,h1,h2,h3,h4,h5,h6⟩:=rX fiC yH (by omega) Tryz.underlying27 (by kernel_rfl) (fun f=>f.topic.size≤140737488351232) (fun n cs D Pl h hs _=>Pc h hs) h hs hlt;refine⟨A,l,c,h1,h2,h3,?_,h5⟩;have hb:Tryz.prog.bytesOf 32=40:=by kernel_rfl
 rw[hb,reachBytes]at h4;omega
theorem Nr {n:Nat} {cs:List Value} {D:DataW H} {Pl:List MemPlace} (h:DataW.trod enc Tryz.prog w base spare held n 25 cs=some (D,Pl)) (hs:fu Tryz.prog 25 D) (hlt:∀x∈Pl,x.block<w.heap.size):
  ∃(x:Wl) (k:Hd),cs=[.string x.topic,.string x.payload,.int .i64 x.qos,.bool x.retain,.slice k.a x.props.length k.c]∧Rd w w.heap.size 4 k.a x.props.length (prs x.props)∧(∀p∈x.props,ea p)∧x.props.length≤2932031007317∧x.props.length≤k.c∧x.topic.size≤140737488351232∧x.payload.size≤140737488351232:=by
 obtain⟨xs,n',rfl,hx,hlen,hxl,hf⟩:=Iy Tryz.underlying25 h;simp only[bG]at hx;obtain⟨rfl,rfl⟩:=hx;have hc4:Tryz.prog.cellsOf 25=5:=by kernel_rfl
 rw[hc4]at hlen
 match cs,hlen with
 | [c0,c1,c2,c3,c4],_=>
   match xs,hxl with
   | [y0,y1,y2,y3,y4],_=>
     have h0:=vz hf 0 (t:=9) (o:=0) (k:=1) (by kernel_rfl);have h1:=vz hf 1 (t:=9) (o:=1) (k:=1) (by kernel_rfl);have h2:=vz hf 2 (t:=3) (o:=2) (k:=1) (by kernel_rfl);have h3:=vz hf 3 (t:=4) (o:=3) (k:=1) (by kernel_rfl);have h4:=vz hf 4 (t:=23) (o:=4) (k:=1) (by kernel_rfl);obtain⟨z0,e0,rfl,_⟩:=GH Tryz.underlying9 h0;obtain⟨z1,e1,rfl,_⟩:=GH Tryz.underlying9 h1;obtain⟨z2,e2,rfl,_⟩:=GB Tryz.underlying3 h2;obtain⟨z3,e3,rfl⟩:=GN Tryz.underlying4 h3;obtain⟨y4d,y4p⟩:=y4;obtain⟨A,l,c,e4,g1,g2,g3,g4,_⟩:=Ki h4 (hs.field Tryz.underlying25 (i:=4) rfl rfl) (fun x hx=>hlt x (by simp[hx]));simp only[cS,ji,GG,GZ,gY,Hj]at e0 e1 e2 e3 e4;subst e0 e1 e2 e3 e4;exact⟨⟨z0,z1,z2,z3,l⟩,⟨A,c⟩,rfl,g1,g2,g3,g4,(hs.field Tryz.underlying25 (i:=0) rfl rfl).text,(hs.field Tryz.underlying25 (i:=1) rfl rfl).text⟩
theorem Oj {n:Nat} {cs:List Value} {D:DataW H} {Pl:List MemPlace} (h:DataW.trod enc Tryz.prog w base spare held n PkT cs=some (D,Pl)) (hs:fu Tryz.prog PkT D) (hlt:∀x∈Pl,x.block<w.heap.size):
  ∃(p:Pk) (k:Hs),cs=(pkC p k).toList∧PkIn w w.heap.size p k∧PkOk p:=by
 obtain⟨xs,n',rfl,hx,hlen,hxl,hf⟩:=Iy Tryz.underlying29 h;simp only[bG]at hx;obtain⟨rfl,rfl⟩:=hx;have hc4:Tryz.prog.cellsOf PkT=25:=by kernel_rfl
 rw[hc4]at hlen
 match cs,hlen with
 | [c0,c1,c2,c3,c4,c5,c6,c7,c8,c9,c10,c11,c12,c13,c14,c15,c16,c17,c18,c19,c20,c21,c22,c23,c24],_=>
   match xs,hxl with
   | [y0,y1,y2,y3,y4,y5,y6,y7,y8,y9,y10,y11,y12,y13,y14,y15,y16,y17,y18,y19,y20],_=>
     have h0:=vz hf 0 (t:=3) (o:=0) (k:=1) (by kernel_rfl);have h1:=vz hf 1 (t:=4) (o:=1) (k:=1) (by kernel_rfl);have h2:=vz hf 2 (t:=4) (o:=2) (k:=1) (by kernel_rfl);have h3:=vz hf 3 (t:=3) (o:=3) (k:=1) (by kernel_rfl);have h4:=vz hf 4 (t:=3) (o:=4) (k:=1) (by kernel_rfl);have h5:=vz hf 5 (t:=9) (o:=5) (k:=1) (by kernel_rfl);have h6:=vz hf 6 (t:=9) (o:=6) (k:=1) (by kernel_rfl);have h7:=vz hf 7 (t:=4) (o:=7) (k:=1) (by kernel_rfl);have h8:=vz hf 8 (t:=3) (o:=8) (k:=1) (by kernel_rfl);have h9:=vz hf 9 (t:=9) (o:=9) (k:=1) (by kernel_rfl);have h10:=vz hf 10 (t:=4) (o:=10) (k:=1) (by kernel_rfl);have h11:=vz hf 11 (t:=9) (o:=11) (k:=1) (by kernel_rfl);have h12:=vz hf 12 (t:=4) (o:=12) (k:=1) (by kernel_rfl);have h13:=vz hf 13 (t:=9) (o:=13) (k:=1) (by kernel_rfl);have h14:=vz hf 14 (t:=4) (o:=14) (k:=1) (by kernel_rfl);have h15:=vz hf 15 (t:=25) (o:=15) (k:=5) (by kernel_rfl);have h16:=vz hf 16 (t:=4) (o:=20) (k:=1) (by kernel_rfl);have h17:=vz hf 17 (t:=3) (o:=21) (k:=1) (by kernel_rfl);have h18:=vz hf 18 (t:=26) (o:=22) (k:=1) (by kernel_rfl);have h19:=vz hf 19 (t:=27) (o:=23) (k:=1) (by kernel_rfl);have h20:=vz hf 20 (t:=23) (o:=24) (k:=1) (by kernel_rfl);obtain⟨z0,e0,rfl,_⟩:=GB Tryz.underlying3 h0;obtain⟨z1,e1,rfl⟩:=GN Tryz.underlying4 h1;obtain⟨z2,e2,rfl⟩:=GN Tryz.underlying4 h2;obtain⟨z3,e3,rfl,_⟩:=GB Tryz.underlying3 h3;obtain⟨z4,e4,rfl,_⟩:=GB Tryz.underlying3 h4;obtain⟨z5,e5,rfl,_⟩:=GH Tryz.underlying9 h5;obtain⟨z6,e6,rfl,_⟩:=GH Tryz.underlying9 h6;obtain⟨z7,e7,rfl⟩:=GN Tryz.underlying4 h7;obtain⟨z8,e8,rfl,_⟩:=GB Tryz.underlying3 h8;obtain⟨z9,e9,rfl,_⟩:=GH Tryz.underlying9 h9;obtain⟨z10,e10,rfl⟩:=GN Tryz.underlying4 h10;obtain⟨z11,e11,rfl,_⟩:=GH Tryz.underlying9 h11;obtain⟨z12,e12,rfl⟩:=GN Tryz.underlying4 h12;obtain⟨z13,e13,rfl,_⟩:=GH Tryz.underlying9 h13;obtain⟨z14,e14,rfl⟩:=GN Tryz.underlying4 h14;obtain⟨d15,p15⟩:=y15;obtain⟨x15,k15,e15,a1,a2,a3,a4,a5,a6⟩:=Nr h15 (hs.field Tryz.underlying29 (i:=15) rfl rfl) (fun x hx=>hlt x (by simp[hx]));obtain⟨z16,e16,rfl⟩:=GN Tryz.underlying4 h16;obtain⟨z17,e17,rfl,_⟩:=GB Tryz.underlying3 h17;obtain⟨d18,p18⟩:=y18;obtain⟨A18,l18,k18,e18,b1,b2,b3⟩:=Mr h18 (hs.field Tryz.underlying29 (i:=18) rfl rfl) (fun x hx=>hlt x (by simp[hx]));obtain⟨d19,p19⟩:=y19;obtain⟨A19,l19,k19,e19,f1,f2,f3,f4⟩:=LB h19 (hs.field Tryz.underlying29 (i:=19) rfl rfl) (fun x hx=>hlt x (by simp[hx]));obtain⟨d20,p20⟩:=y20;obtain⟨A20,l20,k20,e20,r1,r2,r3,r4,_⟩:=Ki h20 (hs.field Tryz.underlying29 (i:=20) rfl rfl) (fun x hx=>hlt x (by simp[hx]));simp only[cS,ji,GG,GZ,gY,Hj]at e0 e1 e2 e3 e4 e5 e6 e7 e8 e9 e10 e11 e12 e13 e14 e15 e16 e17 e18 e19 e20;obtain⟨q0,q1,q2,q3,q4⟩:=e15;subst e0 e1 e2 e3 e4 e5 e6 e7 e8 e9 e10 e11 e12 e13 e14 e16 e17 e18 e19 e20 q0 q1 q2 q3 q4;refine⟨⟨z0,z1,z2,z3,z4,z5,z6,z7,z8,z9,z10,z11,z12,z13,z14,x15,z16,z17,l18,l19,l20⟩,⟨k15,⟨A18,k18⟩,⟨A19,k19⟩,⟨A20,k20⟩⟩,rfl,⟨a1,b1,f1,r1,a4,b3,f4,r4⟩,⟨a2,r2,f2,⟨(hs.field Tryz.underlying29 (i:=5) rfl rfl).text,(hs.field Tryz.underlying29 (i:=6) rfl rfl).text,(hs.field Tryz.underlying29 (i:=9) rfl rfl).text,(hs.field Tryz.underlying29 (i:=11) rfl rfl).text,(hs.field Tryz.underlying29 (i:=13) rfl rfl).text,a5,a6⟩,⟨aC a3 (by decide),b2,f3,aC r3 (by decide)⟩⟩⟩
end
end Go.Proofs.YtpcleamaieaefaaGreatDoor
namespace Go.Proofs.YtpcleamaieaefaaGreatDoor
open Go.RowKit
attribute [local go_sem ↓] bD bF bH bI bu
attribute [local go_sem] bc aD bh bg bK bJ bd aY be aO ax cI dC dB dt dj di dA dr dp dn bW co bO bZ bX cz cy cw cu ct cC cn bS bP bR
theorem Qo (v:Int) (p:Pk):(mqB v p).2=mqE v p:=by
 unfold mqB
 split
 ·rename_i h;exact h.symm
 ·rfl
end Go.Proofs.YtpcleamaieaefaaGreatDoor
