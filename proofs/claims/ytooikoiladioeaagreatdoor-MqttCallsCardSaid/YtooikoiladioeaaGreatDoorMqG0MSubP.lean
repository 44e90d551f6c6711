/- Parts: MSubP, SubD, SubE, OwnK. -/
import Derived.Test.YtooikoiladioeaaGreatDoorMqG0FilC
import Derived.Deep.RegionLaw
set_option maxRecDepth 10000
set_option maxHeartbeats 8000000
namespace Go.Proofs.YtooikoiladioeaaGreatDoor
open Go.RowKit Go.Proofs.Tryz
def BS(f:Fi):Int:=f.qos% 4+f.handling% 4*16+pc f.noLocal 4+pc f.asPub 8
theorem Ly(f:Fi):0<=BS f/\BS f<64:=by
 have h:∀b n,0<=n->0<=pc b n/\pc b n<=n:=fun b n d=>by unfold pc;split<;>omega
 have a:=h f.noLocal 4 (by decide);have c:=h f.asPub 8 (by decide)
 unfold BS;omega
def fiL(k:Int)(f:Fi):List UInt8:=ls (cQ f.topic)++(if k=8 then [UInt8.ofNat (BS f).toNat]else [])
def cdL(l:List Int):List UInt8:=l.map fun c=>UInt8.ofNat c.toNat
def Bg(v:Int)(p:Pk):List UInt8:=Yk p.id.toNat 2++gP v p.kind p.props
def sbS(v:Int)(p:Pk):List UInt8:=Bg v p++p.filters.flatMap (fiL p.kind)++cdL p.codes
def sbB(v:Int)(p:Pk):ByteArray×Int:=if sbE v p=0 then(⟨(sbS v p).toArray⟩,0)else(⟨#[]⟩,sbE v p)
def iU(v:Int)(n:Nat):Bool:=decide (63<n) || (decide (v=4)&&decide (3<n))
def vB(t:ByteArray)(n:Nat):Fi:=⟨t,((n% 4:Nat):Int),decide (n/ 4% 2=1),decide (n/ 8% 2=1),((n/ 16% 4:Nat):Int)⟩
def opR(v:Int)(t:ByteArray)(a:Nat)(e:Int):Nat×Nat×Int:=
 (br t a e 1,(aH t a e 1).2.1,if iU v (br t a e 1)=true then fh (aH t a e 1).2.2 7 else(aH t a e 1).2.2)
def fiR(v k:Int)(t:ByteArray)(a:Nat):Fi×Nat×Int:=
 if k=8 then(vB (rtC t a 0).1 (opR v t (rtC t a 0).2.1 (rtC t a 0).2.2).1,(opR v t (rtC t a 0).2.1 (rtC t a 0).2.2).2.1,(opR v t (rtC t a 0).2.1 (rtC t a 0).2.2).2.2)
 else(⟨(rtC t a 0).1,0,false,false,0⟩,(rtC t a 0).2.1,(rtC t a 0).2.2)
def lsR(v k:Int)(t:ByteArray):Nat->Nat->Int->List Fi->List Int->List Fi×List Int×Nat×Int
 | 0,a,e,fi,cd=>(fi,cd,a,e)
 | n+1,a,e,fi,cd=>
   if e≠0\/t.size<=a then(fi,cd,a,e)
   else if jm k=true then lsR v k t n (fiR v k t a).2.1 (fiR v k t a).2.2 (fi++[(fiR v k t a).1]) cd
   else lsR v k t n (a+1) 0 fi (cd++[((br t a 0 1:Nat):Int)])
def lh(v k:Int)(s:ByteArray):List Pr×Nat×Int:=fv v k s (aH s 0 0 2).2.1 (aH s 0 0 2).2.2
def li(v k:Int)(s:ByteArray):List Fi×List Int×Nat×Int:=lsR v k s (s.size+1) (lh v k s).2.1 (lh v k s).2.2 [] []
def jf(k:Int)(i:Nat)(l:List Pr)(fi:List Fi)(cd:List Int):Pk:={pk0 with kind:=k,id:=(i:Int),props:=l,filters:=fi,codes:=cd}
def jj(v k:Int)(s:ByteArray):Pk:=jf k (br s 0 0 2) (lh v k s).1 (li v k s).1 (li v k s).2.1
def sbR(v k:Int)(s:ByteArray):Pk×Int:=
 if ir v k=false then(pk0,2)
 else if(li v k s).2.2.2≠0 then(pk0,(li v k s).2.2.2)
 else if sbE v (jj v k s)≠0 then(pk0,sbE v (jj v k s))else(jj v k s,0)
theorem MP{v k:Int}:∀ {l:List Fi},fiE v k l=0↔∀f∈l,gj f.topic=true/\nT v k f=true
 | []=>by simp[fiE]
 | f :: l=>by
   have ih:=MP (v:=v) (k:=k) (l:=l);unfold fiE;cases a:gj f.topic
   ·simp[a]
   ·cases b:nT v k f
    ·simp[a,b]
    ·simp[a,b,ih]
theorem MQ{v k:Int}:∀ {l:List Int},cdE v k l=0↔∀c∈l,xF v k c=true
 | []=>by simp[cdE]
 | c :: l=>by
   have ih:=MQ (v:=v) (k:=k) (l:=l);unfold cdE;cases a:xF v k c
   ·simp[a]
   ·simp[a,ih]
structure SbOk (v:Int) (p:Pk):Prop where
 known:ir v p.kind=true
 id1:1<=p.id
 id2:p.id<=65535
 old:v=4->p.props=[]
 have':lj v p=true
 same:p=sbQ v p
 props:(aM p.kind p.props).2=0
 filters:∀f∈p.filters,gj f.topic=true/\nT v p.kind f=true
 codes:∀c∈p.codes,xF v p.kind c=true
theorem NU{v:Int}{p:Pk}(h:sbE v p=0):SbOk v p:=by
 unfold sbE at h;cases a:xY v p
 ·rw[a,if_pos rfl]at h;exact absurd h (by decide)
 rw[a,ae (by decide)]at h
 by_cases c:(aM p.kind p.props).2=0
 rotate_left
 ·rw[if_pos c]at h;exact absurd h c
 rw[ae (fun x=>x c)]at h
 by_cases d:fiE v p.kind p.filters=0
 rotate_left
 ·rw[if_pos d]at h;exact absurd h d
 rw[ae (fun x=>x d)]at h;unfold xY eH at a;simp only[eh,Bool.not_eq_true',Bool.or_eq_false_iff,cH,Ip,Kz]at a;obtain⟨e,⟨i,j,b⟩,f,g⟩:=a;refine⟨e,by omega,by omega,fun x=>?_,f,g,c,MP.1 d,MQ.1 h⟩;rcases b with b| b
 ·exact absurd x b
 ·exact aF (by omega)
theorem ue{v k:Int}(h:ir v k=true):(jm k=true/\(k=8\/k=10))\/(jm k=false/\(k=9\/k=11)):=by
 have b:=aR h
 by_cases a:k=8\/k=10
 ·exact .inl ⟨au a,a⟩
 ·exact .inr ⟨ah a,by omega⟩
theorem Iz{v:Int}{p:Pk}(h:p=sbQ v p)(ha:jm p.kind=true):p.codes=[]:=by
 rw[h];unfold sbQ;rw[if_pos ha];rfl
theorem Ib{v:Int}{p:Pk}(h:p=sbQ v p)(ha:jm p.kind=false):p.filters=[]:=by
 rw[h];unfold sbQ;rw[ae (by rw[ha];decide)];split<;>rfl
theorem Eh(t:ByteArray)(n:Nat)(h:n<64):BS (vB t n)=n:=by
 have:∀m:Fin 64,BS (vB t m.1)=m.1:=by
  intro m;have e:BS (vB t m.1)=BS (vB ⟨#[]⟩ m.1):=rfl;rw[e];clear e
  revert m
  decide+kernel
 exact this ⟨n,h⟩
theorem Fz{t:ByteArray}{a:Nat}{b:UInt8}{rest:List UInt8}(h:(ls t).drop a=b :: rest):a<t.size:=by
 have c:=congrArg List.length h;rw[bU,bM,aN]at c;omega
theorem tf{t:ByteArray}{a:Nat}{b:UInt8}{rest:List UInt8}(h:(ls t).drop a=b :: rest):br t a 0 1=b.toNat:=by
 have c:=Fz h;rw[show((1:Int))=((1:Nat):Int)from rfl,sc (k:=1) (x:=[b]) (rest:=rest) h rfl (by omega)];simp[es]
theorem JI{s:ByteArray}(h:gj s=true):bN s=true:=by
 unfold gj jY at h;simp only[eh]at h;exact h.1.2
theorem Lm{v k c:Int}(h:xF v k c=true):0<=c/\c<256:=by
 unfold xF at h;split at h
 ·unfold tq at h;simp at h;omega
 ·exact Yp h
theorem vA{v k:Int}{t:ByteArray}{a:Nat}(hk:k=8\/k=10)(ha:a<=t.size)(h:(fiR v k t a).2.2=0):
  a<(fiR v k t a).2.1/\(fiR v k t a).2.1<=t.size/\(ls t).drop a=fiL k (fiR v k t a).1++(ls t).drop (fiR v k t a).2.1:=by
 have m:∀(d:(rtC t a 0).2.2=0),a+2<=(rtC t a 0).2.1/\(rtC t a 0).2.1<=t.size/\(ls t).drop a=ls (cQ (rtC t a 0).1)++(ls t).drop (rtC t a 0).2.1:=by
  intro d;obtain⟨q,r⟩:=Fq ha 0;rw[q]at d;rw[r d];obtain⟨-,f,-,-,l⟩:=sC d;rw[si,List.append_assoc];refine⟨?_,f,l⟩;have u:=congrArg List.length l;rw[bU,List.length_append,List.length_append,fM,bU,aN,aN]at u;omega
 unfold fiR at h⊢;rcases hk with rfl| rfl
 ·rw[if_pos rfl]at h⊢;simp only at h⊢;have c:iU v (br t (rtC t a 0).2.1 (rtC t a 0).2.2 1)=false:=by
   cases c:iU v (br t (rtC t a 0).2.1 (rtC t a 0).2.2 1)
   ·rfl
   ·unfold opR at h;rw[c,if_pos rfl]at h;exact(gW h (by decide)).elim
  unfold opR at h⊢;rw[c,ae (by decide)]at h;simp only at h⊢;obtain⟨i,f,s⟩:=i7 (k:=1) h;obtain⟨w,p,g⟩:=m i;rw[i]at c⊢;have j:aH t (rtC t a 0).2.1 0 1=_:=s;rw[j];simp only;refine⟨by omega,f,?_⟩;obtain⟨b,e⟩:∃b,(ls t).drop (rtC t a 0).2.1=b :: (ls t).drop ((rtC t a 0).2.1+1):=⟨_,bQ (by rw[aN];omega)⟩;have o:=tf e;have n:b.toNat<64:=by
   rw[o]at c;unfold iU at c;simp only[Bool.or_eq_false_iff,Ip]at c;omega
  rw[g,e,o];unfold fiL;rw[if_pos rfl,Eh _ _ n,dN,UInt8.ofNat_toNat,List.append_assoc];rfl
 ·rw[ae (by decide)]at h⊢;simp only at h⊢;obtain⟨w,p,g⟩:=m h;refine⟨by omega,p,?_⟩;unfold fiL;rw[ae (by decide),cW];exact g
theorem qo{v k:Int}{t:ByteArray}(hk:ir v k=true):∀(n a:Nat) (e:Int) (fi:List Fi) (cd:List Int),t.size- a<n->a<=t.size->(lsR v k t n a e fi cd).2.2.2=0->
  e=0/\∃l m,(lsR v k t n a e fi cd).1=fi++l/\(lsR v k t n a e fi cd).2.1=cd++m/\(ls t).drop a=l.flatMap (fiL k)++cdL m/\(jm k=true->m=[])/\(jm k=false->l=[])
 | n+1,a,e,fi,cd,hn,ha,h=>by
   unfold lsR at h⊢
   by_cases hc:e≠0\/t.size<=a
   ·rw[if_pos hc]at h⊢;simp only at h⊢;refine⟨h,[],[],by simp,by simp,?_,fun _=>rfl,fun _=>rfl⟩;have:t.size<=a:=hc.resolve_left (fun x=>x h);rw[gF (by rw[aN];omega)];rfl
   ·rw[ae hc]at h⊢;have u:e=0:=aU.1 fun x=>hc (.inl x);have y:a<t.size:=Nat.lt_of_not_le fun x=>hc (.inr x);refine⟨u,?_⟩;rcases ue hk with ⟨c,f⟩ | ⟨c,f⟩
    ·rw[if_pos c]at h⊢
     by_cases o:(fiR v k t a).2.2=0
     ·obtain⟨f1,r,s⟩:=vA f ha o;obtain⟨-,l,m,g,i,j,p,q⟩:=qo hk n _ _ _ _ (by omega) r h;refine⟨(fiR v k t a).1 :: l,m,by rw[g];simp,i,?_,p,fun x=>by rw[c]at x;cases x⟩;rw[s,j,cF,List.append_assoc]
     ·exfalso;cases n with
      | zero=>omega
      | succ n=>
        unfold lsR at h;rw[if_pos (.inl o)]at h;exact o h
    ·rw[ae (by rw[c];decide)]at h⊢;obtain⟨-,l,m,g,i,j,p,q⟩:=qo hk n _ _ _ _ (by omega) (by omega) h;obtain⟨b,d⟩:∃b,(ls t).drop a=b :: (ls t).drop (a+1):=⟨_,bQ (by rw[aN];omega)⟩;have w:=q c;subst w;refine⟨[],((br t a 0 1:Nat):Int) :: m,g,by rw[i];simp,?_,fun x=>(by rw[c]at x;cases x),fun _=>rfl⟩;rw[d,j,tf d];simp[cdL]
theorem Bf{v k:Int}{s:ByteArray}{q:Pk}(h:sbR v k s=(q,0)):sbE v q=0/\sbS v q=ls s/\q.kind=k:=by
 unfold sbR at h;cases e:ir v k
 ·rw[e,if_pos rfl]at h;injection h with _ h;exact absurd h (by decide)
 rw[e,ae (by decide)]at h
 by_cases b:(li v k s).2.2.2=0
 rotate_left
 ·rw[if_pos b]at h;injection h with _ h;exact absurd h b
 rw[ae (fun x=>x b)]at h
 by_cases c:sbE v (jj v k s)=0
 rotate_left
 ·rw[if_pos c]at h;injection h with _ h;exact absurd h c
 rw[ae (fun x=>x c)]at h
 injection h with h _
 subst h;refine⟨c,?_,rfl⟩;have i:(lh v k s).2.1<=s.size:=by
  have w:=dy (t:=s) (a:=0) (ag _) 0 2;unfold lh;exact Ec _ _ _ w
 unfold li at b;obtain⟨o,l,m,p,r,u,A,B⟩:=qo e _ _ _ _ _ (by omega) i b;have d:=o;unfold lh at d;obtain⟨y,C,D,E,f⟩:=yv (dy (t:=s) (a:=0) (ag _) 0 2) d;obtain⟨F,G,z⟩:=i7 (k:=2) y;have n:aH s 0 0 2=(s.extract 0 2,2,0):=z;have g:=lY (t:=s) (a:=0) (by omega);rw[Yl]at g;unfold sbS Bg jj jf;simp only;rw[List.append_assoc,List.append_assoc,dN,g]
 congr 1
 have j:fv v k s (aH s 0 0 2).2.1 (aH s 0 0 2).2.2=lh v k s:=rfl;rw[j]at f;rw[show(aH s 0 0 2).2.1=2 by rw[n]]at f;rw[show(0+2:Nat)=2 from rfl,f]
 congr 1
 unfold li;rw[p,r,dX,dX,u]
section
attribute [local go_sem ↓] bD bF bH bI bu
attribute [local go_sem] bc aD bh bg bK bJ bd aY be aO ax cI dC dB dt dj di dA dr dp dn bW co bO bZ bX cz cy cw cu ct cC YB bS bP bR
theorem Wi(q:Int):bits BinOp.and IntKind.i64 q 3=q% 4:=by
 show IntKind.i64.wrap ((BitVec.ofInt 64 q&&& BitVec.ofInt 64 3).toNat:Int)=_;rw[BitVec.toNat_and,show(BitVec.ofInt 64 3).toNat=2^ 2- 1 from rfl,kC,BitVec.toNat_ofInt,aQ];omega
theorem VT:∀a b:Fin 4,bits BinOp.or IntKind.i64 ((a.1:Nat):Int) (((b.1:Nat):Int)*16)=((a.1:Nat):Int)+((b.1:Nat):Int)*16:=by decide+kernel
theorem VU:∀a b:Fin 4,bits BinOp.or IntKind.i64 (((a.1:Nat):Int)+((b.1:Nat):Int)*16) 4=((a.1:Nat):Int)+((b.1:Nat):Int)*16+4:=by decide+kernel
theorem VE:∀a b:Fin 4,bits BinOp.or IntKind.i64 (((a.1:Nat):Int)+((b.1:Nat):Int)*16) 8=((a.1:Nat):Int)+((b.1:Nat):Int)*16+8:=by decide+kernel
theorem VW:∀a b:Fin 4,bits BinOp.or IntKind.i64 (((a.1:Nat):Int)+((b.1:Nat):Int)*16+4) 8=((a.1:Nat):Int)+((b.1:Nat):Int)*16+12:=by decide+kernel
theorem VZ(f:Fi):∃A B:Int,f.qos% 4=A/\f.handling% 4=B/\bits BinOp.or IntKind.i64 A (B*16)=A+B*16/\bits BinOp.or IntKind.i64 (A+B*16) 4=A+B*16+4/\bits BinOp.or IntKind.i64 (A+B*16) 8=A+B*16+8/\
  bits BinOp.or IntKind.i64 (A+B*16+4) 8=A+B*16+12:=by
 obtain⟨a,c⟩:∃a:Fin 4,f.qos% 4=((a.1:Nat):Int):=⟨⟨(f.qos% 4).toNat,by omega⟩,by simp only;omega⟩;obtain⟨b,d⟩:∃b:Fin 4,f.handling% 4=((b.1:Nat):Int):=⟨⟨(f.handling% 4).toNat,by omega⟩,by simp only;omega⟩;exact⟨_,_,c,d,VT a b,VU a b,VE a b,VW a b⟩
theorem VF(f:Fi)(w:World):
  Calls prog 150 #[.agg #[.string f.topic,.int .i64 f.qos,.bool f.noLocal,.bool f.asPub,.int .i64 f.handling]] w fun e w'=>e= .returned (.int .i64 (BS f))/\Below w.heap.size w w':=by
 obtain⟨A,B,c,d,m,n,o,p⟩:=VZ f;have i:Hid (BS f=A+B*16+pc f.noLocal 4+pc f.asPub 8):=aa (by unfold BS;rw[c,d]);have j:=Wi f.qos;have k:=Wi f.handling;have C:0<=B/\B<4:=by omega
 rw[c]at j;rw[d]at k;have s:=aa m;have u:=aa n;have v:=aa o;have x:=aa p
 clear c d m n o p;obtain⟨t,q,g,b,l⟩:=f;simp only at i j k⊢;generalize BS ⟨t,q,g,b,l⟩=R at*;have h:=aa ((aq w.heap.size w).alloc (ac _) (.cells #[.string t,.int .i64 q,.bool g,.bool b,.int .i64 l] 48));cases g<;>cases b
 all_goals
  go_enter func150,ntmps150;go_wp2;go_ret;refine⟨?_,h.o⟩;have e:=i.o;simp only[pc,if_true,if_false,Bool.false_eq_true,Int.add_zero]at e;rw[e];have a:=s.o;have r:=u.o;have y:=v.o;have z:=x.o
  show Ending.returned (Value.int .i64 _)=_
  first
  | rw[a,r,z];congr 2;omega
  | rw[a,r]
  | rw[a,y]
  | rw[a]
theorem NT{v:Int}{p:Pk}(k:Nat):(Bg v p++(p.filters.take k).flatMap (fiL p.kind)).length<=(sbS v p).length:=by
 unfold sbS;have:(p.filters.flatMap (fiL p.kind)).length=((p.filters.take k).flatMap (fiL p.kind)).length+((p.filters.drop k).flatMap (fiL p.kind)).length:=by
  rw[<-List.length_append,<-fR,cg]
 rw[List.length_append,List.length_append,List.length_append];omega
theorem Nd{v:Int}{p:Pk}(k:Nat):(Bg v p++p.filters.flatMap (fiL p.kind)++cdL (p.codes.take k)).length<=(sbS v p).length:=by
 unfold sbS cdL;simp only[List.length_append,eD,cY];omega
theorem PK{k:Int}{l:List Fi}{i:Nat}{f:Fi}(hf:l[i]? =some f):(l.take (i+1)).flatMap (fiL k)=(l.take i).flatMap (fiL k)++fiL k f:=by
 rw[List.take_add_one,hf,fR];simp
theorem PN{l:List Int}{i:Nat}{c:Int}(hc:l[i]? =some c):cdL (l.take (i+1))=cdL (l.take i)++[UInt8.ofNat c.toNat]:=by
 unfold cdL;rw[List.take_add_one,hc,Ii];simp
theorem MR{c:Int}(h:0<=c/\c<256):∃b:UInt8,UInt8.ofNat c.toNat=b/\c=(b.toNat:Int):=⟨_,rfl,by rw[UInt8.toNat_ofNat'];omega⟩
theorem vV{w w':World}{r:Option Nat}{g:Nat}{t:TypeId}{cs:Array Value}(hg:w.grownBy w' r)(h:Bk w g t cs)(hne:r≠some g):Bk w' g t cs:=
 (hg.block g h.lt (by first| exact hne| exact hne.symm)).trans h
theorem Vp(v:Int)(p:Pk)(h:Hs)(w:World)(ip:PkIn w w.heap.size p h)(ok:PkOk p)(hz:(sbS v p).length<=140737488351232):
  Calls prog 89 #[.int .i64 v,pkV p h] w fun e w'=>e= .returned (.tuple #[.string (sbB v p).1,.int .i64 (sbB v p).2])/\Below w.heap.size w w':=by
 have U:=aa ok;have HZ:=aa hz;have S0:=aa ((St.start w).push ip);have HE:Hid (sbB v p=if sbE v p=0 then(⟨(sbS v p).toArray⟩,0)else(⟨#[]⟩,sbE v p)):=aa rfl;have l0:=S0.o.ld 0 rfl;clear ip ok hz;go_enter func89,ntmps89
 go_wp2_with fail
 refine Yg (lg v p h _ (S0.o.into 0 rfl) U.o) fun w1 x=>?_;have S1:=aa (S0.o.below x);clear x l0
 by_cases J:sbE v p=0
 rotate_left
 ·have HX:Hid (sbB v p=(⟨#[]⟩,sbE v p)):=aa (by rw[HE.o,ae J]);have e0:(sbE v p !=0)=true:=aA.2 J;clear J;go_wp2;go_ret2;exact⟨by rw[HX.o];rfl,S1.o.kept⟩
 have HX:Hid (sbB v p=(⟨(sbS v p).toArray⟩,0)):=aa (by rw[HE.o,if_pos J]);have G:=aa (NU J);have e0:(sbE v p !=0)=false:=by rw[J];rfl
 clear J HE;have k4:=(S1.o.cell 0 rfl 4).trans (dj _ _);obtain⟨n,hn,br⟩:∃n:Nat,Hid (p.id.toNat=n)/\IntKind.u64.wrap p.id=(n:Int):=⟨_,aa rfl,by rw[iZ];have:=G.o.id1;have:=G.o.id2;omega⟩
 go_wp2_with fail
 refine Yg (pD n 2 _ (by have:=hn.out;have:=G.o.id2;have:=G.o.id1;omega) (by omega) (by omega)) fun l x=>?_;have V:=aa (S1.o.below x);clear x k4 br e0;obtain⟨v3,w3,aT,ak,ag⟩:=V7 (P:=prog) l 9 92 5 ⟨(Yk n 2).toArray⟩ underlying9 underlying92 underlying5;rw[jo]at ak;have O3:=aa ak;have B3:=aa ag
 have S3:=aa (V.o.below ag);clear ak ag;have k0:=(S3.o.cell 0 rfl 0).trans (cI _ _);have aY:=(S3.o.cell 0 rfl 24).trans (bR _ _);have aQ:Hid (Bg v p=Yk n 2++gP v p.kind p.props):=aa (by unfold Bg;rw[hn.out])
 go_upto_if 28 with fail
 go_cut [7] (fun a wx=>OB wx l.heap.size a (Bg v p)/\Below l.heap.size l wx)
 case first=>
  by_cases h5:v=5
  ·have e5:(v==5)=true:=aK.2 h5;have HT:Hid (Bg v p=Yk n 2++(aM p.kind p.props).1):=aa (by rw[aQ.o];unfold gP;rw[ae (by omega)]);clear h5
   go_wp2_with fail
   refine Yg (UB p.kind p.props _ rfl U.o.props h.props.a h.props.c _ (S3.o.into 0 rfl).props U.o.len.2.2.2) fun w4 x=>?_;have O4:=aa (O3.o.below x);have X:=aa (Yf B3.o x);have aj:(aM p.kind p.props).1.length<=140737488351232:=by
    have h1:=NT (v:=v) (p:=p) 0;have h2:=HZ.o;rw[List.length_append,HT.o,List.length_append]at h1;omega
   have a2:=aa aj;clear x aj k0 aY
   go_wp2_with (at_builtin;refine UF _ rfl (.tmp 37) (.tmp 38) 92 9 rfl l.heap.size 5 underlying92 underlying9 ku v3 _ rfl O4.o _ rfl (by rw[fM,<-aN,jo];have:=a2.o;omega) X.o.size ?_;intro v' w5 d q)
   have R:OB w5 l.heap.size v' (Bg v p)/\Below l.heap.size l w5:=by
    refine⟨?_,kz X.o q X.o.size (fun g r=>(O4.o.block g r).1)⟩;rw[HT.o];rw[jo]at d;exact d
   clear d q;go_wp2
   go_meet
   case rel=>exact R
  ·have e5:(v==5)=false:=ar.2 h5;have HT:Hid (Bg v p=Yk n 2):=aa (by
    have:=aR (show decide ((v=4\/v=5)/\8<=p.kind/\p.kind<=11)=true from G.o.known);rw[aQ.o];unfold gP;rw[if_pos (by omega),cW])
   clear h5;go_wp2
   go_meet
   case rel=>exact⟨by rw[HT.o];exact O3.o,B3.o⟩
 obtain⟨aU,ah⟩:=hcut;have O4:=aa aU;have X:=aa ah
 have S4:=aa (V.o.below ah);clear aU ah k0 aY aT;have be:=aa U.o.len.2.2.1;have bd:=aa U.o.len.2.1;obtain⟨N,hN⟩:∃n,p.filters.length=n:=⟨_,rfl⟩;obtain⟨M,hM⟩:∃m,p.codes.length=m:=⟨_,rfl⟩;have aX:=S4.o.cell 0 rfl 23;rw[bP,hN]at aX;have HN:=aa hN;have HM:=aa hM
 have bM:N<=4611686018427387904:=by have:=be.o;omega
 have bL:M<=4611686018427387904:=by have:=bd.o;omega
 clear hN hM;go_wp2
 go_loopw [7,43] (fun o i wr=>∃k:Nat,k<=N/\i= .int .i64 k/\OB wr l.heap.size o (Bg v p++(p.filters.take k).flatMap (fiL p.kind))/\Below l.heap.size l wr) (fun _ i _=>N- (intOf i).toNat)
 case atStart=>exact⟨0,by omega,rfl,by rw[GZ,List.flatMap_nil,cW];exact O4.o,X.o⟩
 case round=>
  obtain⟨k,hk,rfl,d,I⟩:=hrel;have S5:=aa (V.o.below I);have O5:=aa d;have B5:=aa I
  clear d I aX;have kk:=(S5.o.cell 0 rfl 0).trans (cI _ _);have ap:=S5.o.cell 0 rfl 22;rw[bS,HM.o]at ap
  by_cases bp:k<N
  ·have E:k<p.filters.length:=by rw[HN.o];exact bp
   obtain⟨b,o,hA,x,c0,c1,c2,c3,c4⟩:=((S5.o.into 0 rfl).filters).atF E;have aW:=U.o.topics p.filters[k] (iY E);have aV:=G.o.filters p.filters[k] (iY E);have t:=aa (PK (k:=p.kind) (List.getElem?_eq_getElem E));have u:=aa (NT (v:=v) (p:=p) (k+1));generalize p.filters[k]=f at*;have bh:=aa aW;have HV:=aa (JI aV.1);have bi:Hid (IM f.topic=(cQ f.topic,0)):=aa (by unfold IM;rw[if_pos HV.o]);rw[t.o,<-List.append_assoc]at u;have Y:Hid ((Bg v p++(p.filters.take k).flatMap (fiL p.kind)).length+(fiL p.kind f).length<=140737488351232):=aa (by
    have:=u.o;have:=HZ.o;rw[List.length_append]at*;rw[List.length_append]at*;omega)
   have b1:(0:Int)<=(k:Int):=by omega
   have b2:(k:Int)<(N:Int):=by omega
   clear E aW aV;obtain⟨L,H⟩:∃L,Bg v p++(p.filters.take k).flatMap (fiL p.kind)=L:=⟨_,rfl⟩;rw[H]at Y O5;have O:=aa H;clear H u;have S6:=aa (S5.o.alloc (.cells #[.string f.topic,.int .i64 f.qos,.bool f.noLocal,.bool f.asPub,.int .i64 f.handling] 48));have B6:=aa (B5.o.alloc B5.o.size (.cells #[.string f.topic,.int .i64 f.qos,.bool f.noLocal,.bool f.asPub,.int .i64 f.handling] 48));have O6:=aa (O5.o.alloc (.cells #[.string f.topic,.int .i64 f.qos,.bool f.noLocal,.bool f.asPub,.int .i64 f.handling] 48));have K6:=aa (Bk.fresh wr 48 #[.string f.topic,.int .i64 f.qos,.bool f.noLocal,.bool f.asPub,.int .i64 f.handling])
   go_wp2_with fail
   refine Yg (UW f.topic _ (by have:=bh.o;omega)) fun w6 D=>?_;have S7:=aa (S6.o.below D);have s:=aa (Yf B6.o D);have C:=aa (O6.o.below D);have K7:=aa (Yh K6.o D);clear D kk ap c0 c1 c2 c3 c4;rw[bi.o];simp only;have aP:Hid (L.length+(cQ f.topic).size<=140737488351232):=aa (by
    have:=Y.o;unfold fiL at this;rw[List.length_append,aN]at this;omega)
   have bg:Hid (u7.ownBlock≠some wr.heap.size):=aa (by
    obtain⟨g,cap,hv,h1,h2,-⟩:=O5.o;rw[hv];intro e;have:g=wr.heap.size:=Option.some.inj e;omega)
   by_cases W:p.kind=8
   ·have e8:(p.kind==8)=true:=aK.2 W;obtain⟨y,hy,B⟩:=MR (c:=BS f) (by have:=Ly f;omega);have K:Hid (fiL p.kind f=ls (cQ f.topic)++[y]):=aa (by unfold fiL;rw[if_pos W,hy]);have bs:IntKind.u8.wrap (y.toNat:Int)=(y.toNat:Int):=by have:=y.toNat_lt;rw[GM];omega
    have aS:=aa B;clear W hy B
    go_wp2_with (at_builtin;refine UF _ rfl (.tmp 53) (.tmp 54) 92 9 rfl l.heap.size 5 underlying92 underlying9 ku u7 _ rfl C.o _ rfl (by have:=aP.o;omega) s.o.size ?_;intro v' w8 d q;have S:=aa (kz s.o q s.o.size (fun g r=>(C.o.block g r).1));have O8:=aa d;have S8:=aa (V.o.below S.o);have Z:Hid (Bk w8 wr.heap.size 48 #[.string f.topic,.int .i64 f.qos,.bool f.noLocal,.bool f.asPub,.int .i64 f.handling]):=aa (vV q K7.o bg.o);clear d q;have kk:=(S8.o.cell 0 rfl 0).trans (cI _ _);have c0:=Z.o.cell 0;have c1:=Z.o.cell 1;have c2:=Z.o.cell 2;have c3:=Z.o.cell 3;have c4:=Z.o.cell 4;simp only[ay,aE,aB]at c0 c1 c2 c3 c4)
    refine Yg (VF f _) fun w9 Q=>?_;have S9:=aa (S8.o.below Q);have T:=aa (Yf S.o Q);have O9:=aa (O8.o.below Q);clear Q kk c0 c1 c2 c3 c4;rw[aS.o]
    go_wp2_with (at_builtin;refine UN _ rfl (.tmp 59) (.tmp 63) 92 rfl l.heap.size 5 underlying92 ku v' _ rfl (O9.o.alloc _) _ _ 1 [y] rfl (Rd.lit _ _ _ rfl (ed _) rfl) (by have:=Y.o;rw[K.o,List.length_append]at this;rw[List.length_append];omega) (T.o.alloc T.o.size _).size ?_;intro au F d q)
    have R:OB F l.heap.size au (L++fiL p.kind f)/\Below l.heap.size l F:=by
     refine⟨?_,kz (T.o.alloc T.o.size _) q (T.o.alloc T.o.size _).size (fun g r=>(O9.o.block g r).1)⟩;rw[K.o,<-List.append_assoc];exact d
    have RR:=aa R;clear d q R;go_wp2
    go_roundw
    case rel=>
     simp only[hA]
     (repeat apply Exists.intro)
     refine⟨?_,rfl⟩;exact⟨k+1,by omega,by go_num,by rw[t.o,<-List.append_assoc,O.o];exact RR.o.1,RR.o.2⟩
    case measure=>simp[intOf];omega
   ·have e8:(p.kind==8)=false:=ar.2 W;have K:Hid (fiL p.kind f=ls (cQ f.topic)):=aa (by unfold fiL;rw[ae W,cW]);clear W
    go_wp2_with (at_builtin;refine UF _ rfl (.tmp 53) (.tmp 54) 92 9 rfl l.heap.size 5 underlying92 underlying9 ku u7 _ rfl C.o _ rfl (by have:=aP.o;omega) s.o.size ?_;intro v' w8 d q;have S:=aa (kz s.o q s.o.size (fun g r=>(C.o.block g r).1));have O8:=aa d;have S8:=aa (V.o.below S.o);clear d q;have kk:=(S8.o.cell 0 rfl 0).trans (cI _ _))
    go_roundw
    case rel=>
     simp only[hA]
     (repeat apply Exists.intro)
     refine⟨?_,rfl⟩;exact⟨k+1,by omega,by go_num,by rw[t.o,<-List.append_assoc,O.o,K.o];exact O8.o,S.o⟩
    case measure=>simp[intOf];omega
  ·obtain rfl:k=N:=by omega
   have O6:Hid (OB wr l.heap.size u7 (Bg v p++p.filters.flatMap (fiL p.kind))):=aa (by
    have:=O5.o;rw[<-HN.o,GK]at this;exact this)
   clear O5;go_wp2
   go_loopw [7,69] (fun o i wq=>∃j:Nat,j<=M/\i= .int .i64 j/\OB wq l.heap.size o (Bg v p++p.filters.flatMap (fiL p.kind)++cdL (p.codes.take j))/\Below l.heap.size l wq) (fun _ i _=>M- (intOf i).toNat)
   case atStart=>exact⟨0,by omega,rfl,by rw[GZ];show OB _ _ _ (_++[]);rw[cW];exact O6.o,B5.o⟩
   case round=>
    obtain⟨j,hj,rfl,d,ai⟩:=hrel;have S6:=aa (V.o.below ai);have C:=aa d;have s:=aa ai
    clear d ai kk ap
    by_cases bb:j<M
    ·have E:j<p.codes.length:=by rw[HM.o];exact bb
     obtain⟨b,o,z,hA,x,ao,hc⟩:=((S6.o.into 0 rfl).codes).atI E;have af:=Lm (G.o.codes z (iL ao));have t:=aa (PN ao);have u:=aa (Nd (v:=v) (p:=p) (j+1));obtain⟨y,hy,B⟩:=MR af;rw[hy]at t;have aS:=aa B;rw[t.o,<-List.append_assoc]at u;have bs:IntKind.u8.wrap (y.toNat:Int)=(y.toNat:Int):=by have:=y.toNat_lt;rw[GM];omega
     rw[B]at hc;have b1:(0:Int)<=(j:Int):=by omega
     have b2:(j:Int)<(M:Int):=by omega
     clear E ao af hy B;obtain⟨L,H⟩:∃L,Bg v p++p.filters.flatMap (fiL p.kind)++cdL (p.codes.take j)=L:=⟨_,rfl⟩;rw[H]at u C;have O:=aa H;clear H
     go_wp2_with (at_builtin;refine UN _ rfl (.tmp 73) (.tmp 76) 92 rfl l.heap.size 5 underlying92 ku u7 _ rfl (C.o.alloc _) _ _ 1 [y] rfl (Rd.lit _ _ _ rfl (ed _) rfl) (by have:=u.o;have:=HZ.o;rw[List.length_append]at*;omega) (s.o.alloc s.o.size _).size ?_;intro au F d q)
     have R:OB F l.heap.size au (L++[y])/\Below l.heap.size l F:=
      ⟨d,kz (s.o.alloc s.o.size _) q (s.o.alloc s.o.size _).size (fun g r=>(C.o.block g r).1)⟩
     have RR:=aa R;clear d q R;go_wp2
     go_roundw
     case rel=>
      simp only[hA]
      (repeat apply Exists.intro)
      refine⟨?_,rfl⟩;exact⟨j+1,by omega,by go_num,by rw[t.o,<-List.append_assoc,O.o];exact RR.o.1,RR.o.2⟩
     case measure=>simp[intOf];omega
    ·obtain rfl:j=M:=by omega
     have O8:Hid (OB wr l.heap.size u7 (sbS v p)):=aa (by
      have:=C.o;rw[<-HM.o,GK]at this;exact this)
     obtain⟨A,c,rfl,am⟩:=O8.o.rd;have aT:=ni (P:=prog) 92 9 5 underlying92 underlying5 underlying9 c am;have bK:=aa am;clear am;go_wp2;go_ret2;exact⟨by rw[HX.o];rfl,S6.o.kept⟩
theorem Fy:∀n:Fin 256,(bits BinOp.andNot IntKind.i64 (n.1:Int) 63 !=0)=decide (63<n.1)/\(bits BinOp.andNot IntKind.i64 (n.1:Int) 3 !=0)=decide (3<n.1)/\
  bits BinOp.and IntKind.i64 (n.1:Int) 3=((n.1% 4:Nat):Int)/\bits BinOp.and IntKind.i64 ((n.1:Int) / 16) 3=((n.1/ 16% 4:Nat):Int)/\
  (bits BinOp.and IntKind.i64 (n.1:Int) 4 !=0)=decide (n.1/ 4% 2=1)/\(bits BinOp.and IntKind.i64 (n.1:Int) 8 !=0)=decide (n.1/ 8% 2=1):=by decide+kernel
def dI(f:Fi):Array Value:=#[.string f.topic,.int .i64 f.qos,.bool f.noLocal,.bool f.asPub,.int .i64 f.handling]
theorem Cur.four{w:World}{g a gf:Nat}{t:ByteArray}{e:Int}(h:Cur w g t a e)(hne:gf≠g)(x1 x4 x2 x3:Value):Cur ((((w.setCell ⟨gf,1,none⟩ x1).setCell ⟨gf,4,none⟩ x4).setCell ⟨gf,2,none⟩ x2).setCell ⟨gf,3,none⟩ x3) g t a e:=
 ⟨(((h.1.other (fun e=>hne e.symm) _).other (fun e=>hne e.symm) _).other (fun e=>hne e.symm) _).other (fun e=>hne e.symm) _,h.2⟩
theorem lZ(w:World)(g gf:Nat)(x1 x4 x2 x3:Value):Mods (two g gf) w ((((w.setCell ⟨gf,1,none⟩ x1).setCell ⟨gf,4,none⟩ x4).setCell ⟨gf,2,none⟩ x2).setCell ⟨gf,3,none⟩ x3):=
 ((((Mods.refl w).set gf 1 (.inl (.inr rfl)) _).set gf 4 (.inl (.inr rfl)) _).set gf 2 (.inl (.inr rfl)) _).set gf 3 (.inl (.inr rfl)) _
theorem l8{w:World}{gf:Nat}{tp:ByteArray}(h:Bk w gf 48 (dI ⟨tp,0,false,false,0⟩))(q hd:Int)(nl ap:Bool):
  Bk ((((w.setCell ⟨gf,1,none⟩ (.int .i64 q)).setCell ⟨gf,4,none⟩ (.int .i64 hd)).setCell ⟨gf,2,none⟩ (.bool nl)).setCell ⟨gf,3,none⟩ (.bool ap)) gf 48 (dI ⟨tp,q,nl,ap,hd⟩):=
 (((h.upd 1 (.int .i64 q) (cs':=dI ⟨tp,q,false,false,0⟩) rfl).upd 4 (.int .i64 hd) (cs':=dI ⟨tp,q,false,false,hd⟩) rfl).upd 2 (.bool nl) (cs':=dI ⟨tp,q,nl,false,hd⟩) rfl).upd 3 (.bool ap) (cs':=dI ⟨tp,q,nl,ap,hd⟩) rfl
theorem wN(v:Int)(hv:v=4\/v=5)(g a:Nat)(t:ByteArray)(e:Int)(gf:Nat)(tp:ByteArray)(w:World)(h:Cur w g t a e)(hf:Bk w gf 48 (dI ⟨tp,0,false,false,0⟩))(hne:gf≠g):
  Calls prog 216 #[.int .i64 v,.pointer (some ⟨g,0,none⟩),.pointer (some ⟨gf,0,none⟩)] w fun e' w'=>
   e'= .returned (.tuple #[])/\Cur w' g t (opR v t a e).2.1 (opR v t a e).2.2/\Bk w' gf 48 (dI (vB tp (opR v t a e).1))/\Mods (two g gf) w w':=by
 have U:=aa h;have V:=aa hf;have m:=aa hne
 have f:Hid (opR v t a e=(br t a e 1,(aH t a e 1).2.1,if iU v (br t a e 1)=true then fh (aH t a e 1).2.2 7 else(aH t a e 1).2.2)):=aa rfl;have K:=iV t a e;clear h hf hne;go_enter func216,ntmps216
 go_wp2_with fail
 refine(dR g a t e 1 _ U.o (by decide)).mono ?_;rintro e' w1 ⟨rfl,p,k⟩;have j:=aa p;have b:=aa (V.o.mods (Mods.of_grown (S:=fun i=>i=g) k rfl) (fun e=>m.o e));have y:Hid (Mods (two g gf) w w1):=aa (Mods.of_grown k (.inl rfl));clear p k;generalize br t a e 1=n at*;obtain⟨R,J⟩:∃R,aH t a e 1=R:=⟨_,rfl⟩;rw[J]at f j;clear J;obtain⟨T,C,G⟩:=R;simp only at f j⊢;obtain⟨z,A,X,Y,Z,o6⟩:=Fy ⟨n,K⟩;simp only at z A X Y Z o6;rcases hv with rfl| rfl
 focus
  have o:Hid (decide (3<n)=iU 4 n):=aa (by unfold iU;rw[au rfl,aL,eG,Bool.or_eq_true];simp only[cH];omega)
  by_cases c:3<n
  focus
   have l:Hid (iU 4 n=true):=aa (by rw[<-o.out,au c]);rw[au c]at A
  rotate_left
  ·have l:Hid (iU 4 n=false):=aa (by rw[<-o.out,ah c]);rw[ah c]at A;rw[l.o,ae (by decide)]at f;clear c;obtain⟨⟨D,E,F⟩,H,f1,I⟩:=j.o.cells;have q:=b.o.cell 0;have r:=b.o.cell 1;have s:=b.o.cell 2;have u:=b.o.cell 3;have x:=b.o.cell 4
   have L:=b.o.free 0;have M:=b.o.free 1;have N:=b.o.free 2;have O:=b.o.free 3;have P:=b.o.free 4
   simp only[dI,ay,aE,aB]at q r s u x;go_wp2
   go_end0
   rw[f.o];refine⟨rfl,?_,?_,?_⟩
   ·exact j.o.four (fun e=>m.o e) _ _ _ _
   ·exact l8 b.o _ _ _ _
   ·exact y.o.trans (lZ _ _ _ _ _ _ _)
 rotate_left
 focus
  have o:Hid (decide (63<n)=iU 5 n):=aa (by unfold iU;rw[show decide ((5:Int)=4)=false from rfl,bj,Bool.or_false])
  by_cases c:63<n
  focus
   have l:Hid (iU 5 n=true):=aa (by rw[<-o.out,au c]);rw[au c]at z
  rotate_left
  ·have l:Hid (iU 5 n=false):=aa (by rw[<-o.out,ah c]);rw[ah c]at z;rw[l.o,ae (by decide)]at f;clear c;obtain⟨⟨D,E,F⟩,H,f1,I⟩:=j.o.cells;have q:=b.o.cell 0;have r:=b.o.cell 1;have s:=b.o.cell 2;have u:=b.o.cell 3;have x:=b.o.cell 4
   have L:=b.o.free 0;have M:=b.o.free 1;have N:=b.o.free 2;have O:=b.o.free 3;have P:=b.o.free 4
   simp only[dI,ay,aE,aB]at q r s u x;go_wp2
   go_end0
   rw[f.o];refine⟨rfl,?_,?_,?_⟩
   ·exact j.o.four (fun e=>m.o e) _ _ _ _
   ·exact l8 b.o _ _ _ _
   ·exact y.o.trans (lZ _ _ _ _ _ _ _)
 rotate_left
 all_goals
  rw[l.o,if_pos rfl]at f;clear c
  go_wp2_with fail
  refine(cB g C t G 7 _ j.o).mono ?_;rintro e' Q ⟨rfl,p,k⟩;have B:Hid (Cur Q g t C (fh G 7)):=aa p;have d:=aa (b.o.mods (Mods.of_grown (S:=fun i=>i=g) k rfl) (fun e=>m.o e));have W:Hid (Mods (two g gf) w Q):=aa (y.o.trans (Mods.of_grown k (.inl rfl)));clear p k;obtain⟨⟨D,E,F⟩,H,f1,I⟩:=B.o.cells;have q:=d.o.cell 0;have r:=d.o.cell 1;have s:=d.o.cell 2;have u:=d.o.cell 3;have x:=d.o.cell 4
  have L:=d.o.free 0;have M:=d.o.free 1;have N:=d.o.free 2;have O:=d.o.free 3;have P:=d.o.free 4
  simp only[dI,ay,aE,aB]at q r s u x;go_wp2
  go_end0
  rw[f.o];refine⟨rfl,?_,?_,?_⟩
  ·exact B.o.four (fun e=>m.o e) _ _ _ _
  ·exact l8 d.o _ _ _ _
  ·exact W.o.trans (lZ _ _ _ _ _ _ _)
theorem Wc(l:List Int):∀u∈iv l,u.oneCell'=true:=by
 intro u a;obtain⟨z,-,rfl⟩:=jX.1 a;rfl
theorem V9(l:List Fi):∀u∈fis l,u.oneCell'=true:=by
 intro u b;obtain⟨f,-,a⟩:=ou.1 b;simp only[fiC,ie,List.not_mem_nil,or_false]at a;obtain rfl| rfl| rfl| rfl| rfl:=a<;>rfl
theorem oP:(prog.info? 48).map (fun i=>(i.zero,i.size,i.bytes))=some (some (.agg #[.string ⟨#[]⟩,.int .i64 0,.bool false,.bool false,.int .i64 0]),5,40):=by kernel_rfl
theorem VC(l:List Int)(A:Option Addr)(c:Nat)(w:World)(h:Rd w w.heap.size 1 A l.length (iv l))(hl:l.length<=1000000):
  Calls prog 23 #[.slice A l.length c] w fun e w'=>∃v,e= .returned v/\w'.ownsRow w.heap.size 3 1 v l.length (iv l)/\Below w.heap.size w w':=by
 have H:=aa h;clear h
 go_enter func23,ntmps23
 go_wp2_with (at_builtin;refine kF _ rfl (.tmp 3) (.tmp 4) 25 rfl w.heap.size 3 _ 1 8 underlying25 Cw rfl (by decide) (.slice (some ⟨w.heap.size,0,none⟩) 0 0) 0 [] rfl (UH w w.heap.size _ 1 (ac _)) _ _ _ _ (iv l) rfl (H.o.alloc (ac _) _) (Wc _) (by unfold maxLen;omega) (by omega) (by simp) ?_;intro i j a b d)
 go_ret;refine⟨i,rfl,by simpa using a,kz ((aq _ _).alloc (ac _) _) b (by simp) (fun g f=>?_)⟩;have:w.heap.size=g:=by simpa [Value.ownBlock]using f
 omega
theorem VD(l:List Fi)(A:Option Addr)(c:Nat)(w:World)(h:Rd w w.heap.size 5 A l.length (fis l))(hl:l.length<=1000000):
  Calls prog 24 #[.slice A l.length c] w fun e w'=>∃v,e= .returned v/\w'.ownsRow w.heap.size 48 5 v l.length (fis l)/\Below w.heap.size w w':=by
 have H:=aa h;clear h
 go_enter func24,ntmps24
 go_wp2_with (at_builtin;refine kF _ rfl (.tmp 3) (.tmp 4) 26 rfl w.heap.size 48 _ 5 40 underlying26 oP rfl (by decide) (.slice (some ⟨w.heap.size,0,none⟩) 0 0) 0 [] rfl (UH w w.heap.size _ 5 (ac _)) _ _ _ _ (fis l) rfl (H.o.alloc (ac _) _) (V9 _) (by unfold maxLen;omega) (by omega) (by simp) ?_;intro i j a b d)
 go_ret;refine⟨i,rfl,by simpa using a,kz ((aq _ _).alloc (ac _) _) b (by simp) (fun g f=>?_)⟩;have:w.heap.size=g:=by simpa [Value.ownBlock]using f
 omega
theorem UL{w:World}{base:Nat}{e:TypeId}{k c:Nat}{A:Option Addr}{n:Nat}{xs:List Value}(h:w.ownsRow base e k (.slice A n c) n xs):n<=c/\Rd w w.heap.size k A n xs:=by
 obtain⟨f,g,b,a,d⟩:=jK h;cases b;exact⟨a,d⟩
theorem UM{w:World}{base g:Nat}{e:TypeId}{k:Nat}{v:Value}{n:Nat}{xs:List Value}(h:w.ownsRow base e k v n xs)(hg:g<base)(q:Pk)(k':Hs):(dE w g q k').ownsRow base e k v n xs:=
 h.kept (cJ w g q k') (.inr fun a=>by have:=cX h _ a;omega)
theorem VS{p:Pk}{h:Hs}{w y:World}{t1 t2 t3:TypeId}{A1 A2 A3 A4:Option Addr}{q1 q2 q3 q4:Nat}(hB:Below w.heap.size w y)(h1:Bk y w.heap.size PkT (pkC p h))(h2:Bk y (w.heap.size+1) PkT (pkC pk0 hs0))
  (o1:y.ownsRow (w.heap.size+2) t1 1 (.slice A1 p.codes.length q1) p.codes.length (iv p.codes))(o2:y.ownsRow (w.heap.size+2) t2 5 (.slice A2 p.filters.length q2) p.filters.length (fis p.filters))
  (o3:y.ownsRow (w.heap.size+2) t3 4 (.slice A3 p.props.length q3) p.props.length (prs p.props))(o4:y.ownsRow (w.heap.size+2) t3 4 (.slice A4 p.will.props.length q4) p.will.props.length (prs p.will.props))
  (z:World)(hz:(((y.setCell ⟨w.heap.size,22,none⟩ (.slice A1 p.codes.length q1)).setCell ⟨w.heap.size,23,none⟩ (.slice A2 p.filters.length q2)).setCell ⟨w.heap.size,24,none⟩ (.slice A3 p.props.length q3)).setCell ⟨w.heap.size,19,none⟩ (.slice A4 p.will.props.length q4)=z):
  Bk z w.heap.size PkT (pkC p ⟨⟨A4,q4⟩,⟨A1,q1⟩,⟨A2,q2⟩,⟨A3,q3⟩⟩)/\Bk z (w.heap.size+1) PkT (pkC pk0 hs0)/\
  PkIn (dE z (w.heap.size+1) p ⟨⟨A4,q4⟩,⟨A1,q1⟩,⟨A2,q2⟩,⟨A3,q3⟩⟩) (dE z (w.heap.size+1) p ⟨⟨A4,q4⟩,⟨A1,q1⟩,⟨A2,q2⟩,⟨A3,q3⟩⟩).heap.size p ⟨⟨A4,q4⟩,⟨A1,q1⟩,⟨A2,q2⟩,⟨A3,q3⟩⟩/\
  Below w.heap.size w (dE z (w.heap.size+1) p ⟨⟨A4,q4⟩,⟨A1,q1⟩,⟨A2,q2⟩,⟨A3,q3⟩⟩):=by
 have b:∀i,w.heap.size+1≠(⟨w.heap.size,i,none⟩:Addr).block:=fun i=>by show w.heap.size+1≠w.heap.size;omega
 have l:∀i,(⟨w.heap.size,i,none⟩:Addr).block<w.heap.size+2:=fun i=>by show w.heap.size<w.heap.size+2;omega
 have d:=(((h1.upd 22 _ rfl).upd 23 _ rfl).upd 24 _ rfl).upd 19 (.slice A4 p.will.props.length q4) (cs':=pkC p ⟨⟨A4,q4⟩,⟨A1,q1⟩,⟨A2,q2⟩,⟨A3,q3⟩⟩) rfl;have f:=(((h2.other (b 22) (.slice A1 p.codes.length q1)).other (b 23) (.slice A2 p.filters.length q2)).other (b 24) (.slice A3 p.props.length q3)).other (b 19) (.slice A4 p.will.props.length q4);have c:Below w.heap.size w ((((y.setCell ⟨w.heap.size,22,none⟩ (.slice A1 p.codes.length q1)).setCell ⟨w.heap.size,23,none⟩ (.slice A2 p.filters.length q2)).setCell ⟨w.heap.size,24,none⟩ (.slice A3 p.props.length q3)).setCell ⟨w.heap.size,19,none⟩ (.slice A4 p.will.props.length q4)):=
  Below.setCell (Below.setCell (Below.setCell (Below.setCell hB (ac _) _) (ac _) _) (ac _) _) (ac _) _
 have a:∀ {e:TypeId} {k:Nat} {v:Value} {n:Nat} {xs:List Value},y.ownsRow (w.heap.size+2) e k v n xs->z.ownsRow (w.heap.size+2) e k v n xs:=fun h=>by
  rw[<-hz];exact Uz (Uz (Uz (Uz h (l 22) _) (l 23) _) (l 24) _) (l 19) _
 rw[hz]at d f c;obtain⟨g,q⟩:=UL (UM (a o1) (by omega:w.heap.size+1<_) p ⟨⟨A4,q4⟩,⟨A1,q1⟩,⟨A2,q2⟩,⟨A3,q3⟩⟩);obtain⟨j,r⟩:=UL (UM (a o2) (by omega:w.heap.size+1<_) p ⟨⟨A4,q4⟩,⟨A1,q1⟩,⟨A2,q2⟩,⟨A3,q3⟩⟩);obtain⟨m,s⟩:=UL (UM (a o3) (by omega:w.heap.size+1<_) p ⟨⟨A4,q4⟩,⟨A1,q1⟩,⟨A2,q2⟩,⟨A3,q3⟩⟩);obtain⟨o,t⟩:=UL (UM (a o4) (by omega:w.heap.size+1<_) p ⟨⟨A4,q4⟩,⟨A1,q1⟩,⟨A2,q2⟩,⟨A3,q3⟩⟩);exact⟨d,f,⟨t,q,r,s,o,g,j,m⟩,bT c c.size (by omega) _ _⟩
def Wg(p:Pk)(w:World)(e:Ending)(w':World):Prop:=∃k,e= .returned (pkV p k)/\PkIn w' w'.heap.size p k/\Below w.heap.size w w'
theorem VB(p:Pk)(h:Hs)(w:World)(ip:PkIn w w.heap.size p h)(hc:p.codes.length<=60)(hf:p.filters.length<=60)(hp:p.props.length<=1010)(hw:p.will.props.length<=1010):
  Calls prog 7 #[pkV p h] w (Wg p w):=by
 have HP:=aa ip;have q:Bk ((w.alloc (.cells (pkC p h) PkT)).alloc (.cells (pkC pk0 hs0) PkT)) w.heap.size PkT (pkC p h):=(Bk.fresh w PkT (pkC p h)).alloc _;have B2:Bk ((w.alloc (.cells (pkC p h) PkT)).alloc (.cells (pkC pk0 hs0) PkT)) (w.heap.size+1) PkT (pkC pk0 hs0):=by
  have h9:=Bk.fresh (w.alloc (.cells (pkC p h) PkT)) PkT (pkC pk0 hs0);rw[show(w.alloc (.cells (pkC p h) PkT)).heap.size=w.heap.size+1 by simp]at h9;exact h9
 have l:=ic w (.cells (pkC p h) PkT) (.cells (pkC pk0 hs0) PkT);go_enter func7,ntmps7
 go_wp2_with fail
 obtain⟨W,hW⟩:∃W,((w.alloc (.cells (pkC p h) PkT)).alloc (.cells (pkC pk0 hs0) PkT))=W:=⟨_,rfl⟩;have ay:W.heap.size=w.heap.size+2:=by rw[<-hW];simp
 rw[hW]at q B2 l⊢;have HB:=aa l;have H1:=aa q;have H2:=aa B2;have a0:=aa ay
 have au:=q.cell 22;have aw:=q.cell 23;have ax:=q.cell 24;have ar:=q.cell 19;rw[bS]at au;rw[bP]at aw;rw[bR]at ax;rw[ct]at ar;clear hW ay l q B2 ip;have T:=aa (aV HB.o 1);have aj:=aa (H1.o.drewN 1);have an:=aa (H2.o.drewN 1)
 have S0:w.heap.size+2<=W.drew.heap.size:=Nat.le_of_eq a0.o.symm;refine je (fun w'=>w'.cell? ⟨w.heap.size,22,none⟩=some (.slice h.codes.a p.codes.length h.codes.c)/\w'.cell? ⟨w.heap.size,23,none⟩=some (.slice h.filters.a p.filters.length h.filters.c)/\w'.cell? ⟨w.heap.size,24,none⟩=some (.slice h.props.a p.props.length h.props.c)/\w'.cell? ⟨w.heap.size,19,none⟩=some (.slice h.wp.a p.will.props.length h.wp.c)) [14,16,18,21] (by kernel_rfl) ?_;have f:W.drew.cell? ⟨w.heap.size,22,none⟩=some (.slice h.codes.a p.codes.length h.codes.c)/\W.drew.cell? ⟨w.heap.size,23,none⟩=some (.slice h.filters.a p.filters.length h.filters.c)/\W.drew.cell? ⟨w.heap.size,24,none⟩=some (.slice h.props.a p.props.length h.props.c)/\W.drew.cell? ⟨w.heap.size,19,none⟩=some (.slice h.wp.a p.will.props.length h.wp.c):=⟨au,aw,ax,ar⟩;refine Yi 0 [14,16,18,21] rfl f ?_;refine Yi 1 [14,16,18,21] rfl f ?_;refine Yi 3 [14,16,18,21] rfl f ?_;refine Yi 4 [14,16,18,21] rfl f ?_;refine Yi 6 [14,16,18,21] rfl f ?_;refine Yi 7 [14,16,18,21] rfl f ?_;refine Yi 9 [14,16,18,21] rfl f ?_;refine Yi 10 [14,16,18,21] rfl f ?_;refine Yi 11 [14,16,18,21] rfl f ?_;refine Up 2 rfl (fun K b=>?_);go_simp
 go_at_call 23
 refine(VC p.codes h.codes.a h.codes.c _ (HP.o.next T.o).codes (by omega)).mono ?_;rintro e y1 ⟨v1,rfl,J,P⟩;obtain⟨o,O,rfl,az,aE⟩:=jK J;have R1:=aa aE;have Q1:=aa az;have S1:w.heap.size+2<=y1.heap.size:=aC S0 P.size;have a4:=aa (zH J S0);clear aE az J;have U:=aa (Yf T.o P);have g:=aa (Yh aj.o P);have ao:=aa (Yh an.o P);have v:=g.o.cell 22;have B:=g.o.cell 23;have F:=g.o.cell 24;have r:=g.o.cell 19;have br:=g.o.free 22;have bv:=g.o.free 23;have bA:=g.o.free 24;have bn:=g.o.free 19;rw[bS]at v;rw[bP]at B;rw[bR]at F;rw[ct]at r;go_simp;refine b.out _ _ (fun _=>⟨v,B,F,r⟩) ?_;clear b K f;have f:=And.intro v (And.intro B (And.intro F r));refine Yi 13 [14,16,18,21] rfl f ?_;refine Up 5 rfl (fun K b=>?_);go_simp
 go_at_call 24
 refine(VD p.filters h.filters.a h.filters.c _ (HP.o.next U.o).filters (by omega)).mono ?_;rintro e y2 ⟨v2,rfl,L,l⟩;obtain⟨Q,R,rfl,aA,aF⟩:=jK L;have R2:=aa aF;have Q2:=aa aA;have S2:w.heap.size+2<=y2.heap.size:=aC S1 l.size;have a8:=aa (zH L S1);have a5:=aa (dV a4.o l);clear aF aA L;have V:=aa (Yf U.o l);have i:=aa (Yh g.o l);have ap:=aa (Yh ao.o l);have x:=i.o.cell 22;have C:=i.o.cell 23;have G:=i.o.cell 24;have s:=i.o.cell 19;have bs:=i.o.free 22;have bw:=i.o.free 23;have bB:=i.o.free 24;have bo:=i.o.free 19;rw[bS]at x;rw[bP]at C;rw[bR]at G;rw[ct]at s;go_simp;refine b.out _ _ (fun _=>⟨x,C,G,s⟩) ?_;clear b K f;have f:=And.intro x (And.intro C (And.intro G s));refine Up 8 rfl (fun K b=>?_);go_simp
 go_at_call 25
 refine(Vb p.props h.props.a h.props.c _ (HP.o.next V.o).props (by omega)).mono ?_;rintro e y3 ⟨v3,rfl,M,n⟩;obtain⟨S,q3,rfl,aB,aG⟩:=jK M;have R3:=aa aG;have Q3:=aa aB;have S3:w.heap.size+2<=y3.heap.size:=aC S2 n.size;have bb:=aa (zH M S2);have a6:=aa (dV a5.o n);have a9:=aa (dV a8.o n);clear aG aB M;have X:=aa (Yf V.o n);have j:=aa (Yh i.o n);have aq:=aa (Yh ap.o n);have y:=j.o.cell 22;have D:=j.o.cell 23;have H:=j.o.cell 24;have t:=j.o.cell 19;have bt:=j.o.free 22;have bx:=j.o.free 23;have bC:=j.o.free 24;have bp:=j.o.free 19;rw[bS]at y;rw[bP]at D;rw[bR]at H;rw[ct]at t;go_simp;refine b.out _ _ (fun _=>⟨y,D,H,t⟩) ?_;clear b K f;have f:=And.intro y (And.intro D (And.intro H t));refine Up 12 rfl (fun K b=>?_);go_simp
 go_at_call 25
 refine(Vb p.will.props h.wp.a h.wp.c _ (HP.o.next X.o).wp (by omega)).mono ?_;rintro e y4 ⟨v4,rfl,N,m⟩;obtain⟨A4,q4,rfl,aD,aH⟩:=jK N;have R4:=aa aH;have Q4:=aa aD;have S4:w.heap.size+2<=y4.heap.size:=aC S3 m.size;have bd:=aa (zH N S3);have a7:=aa (dV a6.o m);have ba:=aa (dV a9.o m);have bc:=aa (dV bb.o m);clear aH aD N;have aS:=aa (Yf X.o m);have k:=aa (Yh j.o m);have aR:=aa (Yh aq.o m);have A:=k.o.cell 22;have E:=k.o.cell 23;have I:=k.o.cell 24;have u:=k.o.cell 19;have bu:=k.o.free 22;have bz:=k.o.free 23;have bD:=k.o.free 24;have bq:=k.o.free 19;rw[bS]at A;rw[bP]at E;rw[bR]at I;rw[ct]at u;go_simp;refine b.out _ _ (fun _=>⟨A,E,I,u⟩) ?_;clear b K f;have f:=And.intro A (And.intro E (And.intro I u));refine Up 14 rfl (fun K b=>?_);go_simp;refine b.out _ _ (fun hn=>absurd (hn 14 (by simp)) (by decide)) (mc (d:=14) (by simp) _ _ _ _ (by kernel_rfl) ?_);clear b K f;obtain⟨z1,ac⟩:∃z,y4.setCell ⟨w.heap.size,22,none⟩ (.slice o p.codes.length O)=z:=⟨_,rfl⟩;have Y:=k.o.upd 22 (.slice o p.codes.length O) (cs':=pkC p ⟨h.wp,⟨o,O⟩,h.filters,h.props⟩) rfl;rw[ac]at Y⊢;have x1:=Y.cell 23;rw[bP]at x1;have g1:=Y.free 23;have aY:=aa Y;have a1:=aa ac;clear Y ac
 refine Yj 15 rfl ?_;refine Uq 16 rfl (fun K b=>?_);go_simp;refine b.out _ _ ?_;clear b K;obtain⟨z2,ad⟩:∃z,z1.setCell ⟨w.heap.size,23,none⟩ (.slice Q p.filters.length R)=z:=⟨_,rfl⟩;have Z:=aY.o.upd 23 (.slice Q p.filters.length R) (cs':=pkC p ⟨h.wp,⟨o,O⟩,⟨Q,R⟩,h.props⟩) rfl;rw[ad]at Z⊢;have x2:=Z.cell 24;rw[bR]at x2;have g2:=Z.free 24;have aZ:=aa Z;have a2:=aa ad;clear Z ad
 refine Yj 17 rfl ?_;refine Uq 18 rfl (fun K b=>?_);go_simp;refine b.out _ _ ?_;clear b K;obtain⟨z3,ae⟩:∃z,z2.setCell ⟨w.heap.size,24,none⟩ (.slice S p.props.length q3)=z:=⟨_,rfl⟩;have U3:=aZ.o.upd 24 (.slice S p.props.length q3) (cs':=pkC p ⟨h.wp,⟨o,O⟩,⟨Q,R⟩,⟨S,q3⟩⟩) rfl;rw[ae]at U3⊢;have x3:=U3.cell 19;rw[ct]at x3;have g3:=U3.free 19;have bO:=aa U3;have a3:=aa ae;clear U3 ae
 refine Yj 19 rfl ?_;refine Yj 20 rfl ?_;refine Uq 21 rfl (fun K b=>?_);go_simp;refine b.out _ _ ?_;clear b K;refine QB (by kernel_rfl) ?_ _;obtain⟨z,hz⟩:∃z,z3.setCell ⟨w.heap.size,19,none⟩ (.slice A4 p.will.props.length q4)=z:=⟨_,rfl⟩;obtain⟨E1,E2,E3,E4⟩:=VS aS.o k.o aR.o a7.o ba.o bc.o bd.o z (by rw[a1.o,a2.o,a3.o];exact hz);rw[hz];have G1:=cf E1;have G2:=aW E2 p ⟨⟨A4,q4⟩,⟨o,O⟩,⟨Q,R⟩,⟨S,q3⟩⟩;have aT:=aa (cO E2 p ⟨⟨A4,q4⟩,⟨o,O⟩,⟨Q,R⟩,⟨S,q3⟩⟩);have aU:=aa E3;have aX:=aa E4
 clear E1 E2 E3 E4 hz
 go_wp2_with fail
 refine av (U7 rfl _ rfl aT.o) rfl ?_;exact⟨_,rfl,aU.o,aX.o⟩
theorem Mv{p:Pk}(h:Ie p=true):p.codes.length<=60/\p.filters.length<=60/\p.props.length<=1010/\p.will.props.length<=1010:=by
 unfold Ie Ig at h;simp only[eh,Fx]at h;omega
end
end Go.Proofs.YtooikoiladioeaaGreatDoor
