/- Parts: MSubP, SubD, SubE, OrdD, OwnK. -/
import Derived.Test.YtafoknnjekegkaaGreatDoorLqG0SubA
import Derived.Deep.RegionHeld
import Derived.Deep.RegionLaw
set_option maxRecDepth 10000
set_option maxHeartbeats 8000000
namespace Go.Proofs.YtafoknnjekegkaaGreatDoor
open Go.RowKit Go.Proofs.Tryz
def BS(f:Fi):Int:=f.qos% 4+f.handling% 4*16+pc f.noLocal 4+pc f.asPub 8
theorem Ly(f:Fi):0<=BS f/\BS f<64:=by
 have h:∀b n,0<=n->0<=pc b n/\pc b n<=n:=λb n d=>by unfold pc;split<;>omega
 have a:=h f.noLocal 4 (by decide);have c:=h f.asPub 8 (by decide)
 unfold BS;omega
def fiL(k:Int)(f:Fi):List UInt8:=ls (cQ f.topic)++(if k=8 then [UInt8.ofNat (BS f).toNat]else [])
def cdL(l:List Int):List UInt8:=l.map λc=>UInt8.ofNat c.toNat
def Bg(v:Int)(p:Pk):List UInt8:=Yk p.id.toNat 2++gP v p.kind p.props
def sbS(v:Int)(p:Pk):List UInt8:=Bg v p++p.filters.flatMap (fiL p.kind)++cdL p.codes
def sbB(v:Int)(p:Pk):abO×Int:=if sbE v p=0 then(⟨(sbS v p).toArray⟩,0)else(⟨#[]⟩,sbE v p)
def iU(v:Int)(n:Nat):Bool:=decide (63<n) || (decide (v=4)&&decide (3<n))
def vB(t:abO)(n:Nat):Fi:=⟨t,((n% 4:Nat):Int),decide (n/ 4% 2=1),decide (n/ 8% 2=1),((n/ 16% 4:Nat):Int)⟩
def opR(v:Int)(t:abO)(a:Nat)(e:Int):Nat×Nat×Int:=
 (br t a e 1,(aH t a e 1).2.1,if iU v (br t a e 1)=true then fh (aH t a e 1).2.2 7 else(aH t a e 1).2.2)
def fiR(v k:Int)(t:abO)(a:Nat):Fi×Nat×Int:=
 if k=8 then(vB (rtC t a 0).1 (opR v t (rtC t a 0).2.1 (rtC t a 0).2.2).1,(opR v t (rtC t a 0).2.1 (rtC t a 0).2.2).2.1,(opR v t (rtC t a 0).2.1 (rtC t a 0).2.2).2.2)
 else(⟨(rtC t a 0).1,0,false,false,0⟩,(rtC t a 0).2.1,(rtC t a 0).2.2)
def lsR(v k:Int)(t:abO):Nat->Nat->Int->List Fi->List Int->List Fi×List Int×Nat×Int
 | 0,a,e,fi,cd=>(fi,cd,a,e)
 | n+1,a,e,fi,cd=>
   if e≠0\/t.size<=a then(fi,cd,a,e)
   else if jm k=true then lsR v k t n (fiR v k t a).2.1 (fiR v k t a).2.2 (fi++[(fiR v k t a).1]) cd
   else lsR v k t n (a+1) 0 fi (cd++[((br t a 0 1:Nat):Int)])
def lh(v k:Int)(s:abO):List Pr×Nat×Int:=fv v k s (aH s 0 0 2).2.1 (aH s 0 0 2).2.2
def li(v k:Int)(s:abO):List Fi×List Int×Nat×Int:=lsR v k s (s.size+1) (lh v k s).2.1 (lh v k s).2.2 [] []
def jf(k:Int)(i:Nat)(l:List Pr)(fi:List Fi)(cd:List Int):Pk:={pk0 with kind:=k,id:=(i:Int),props:=l,filters:=fi,codes:=cd}
def jj(v k:Int)(s:abO):Pk:=jf k (br s 0 0 2) (lh v k s).1 (li v k s).1 (li v k s).2.1
def sbR(v k:Int)(s:abO):Pk×Int:=
 if ir v k=false then(pk0,2)
 else if(li v k s).2.2.2≠0 then(pk0,(li v k s).2.2.2)
 else if sbE v (jj v k s)≠0 then(pk0,sbE v (jj v k s))else(jj v k s,0)
theorem MP{v k:Int}:∀ {l:List Fi},fiE v k l=0↔∀f∈l,gj f.topic=true/\nT v k f=true
 | []=>by simp[fiE]
 | f :: l=>by
   have ih:=MP (v:=v) (k:=k) (l:=l);unfold fiE;cases a:gj f.topic
   ·simp[a]
   ·cases b:nT v k f
    ·simp[a,b]
    ·simp[a,b,ih]
theorem MQ{v k:Int}:∀ {l:List Int},cdE v k l=0↔∀c∈l,xF v k c=true
 | []=>by simp[cdE]
 | c :: l=>by
   have ih:=MQ (v:=v) (k:=k) (l:=l);unfold cdE;cases a:xF v k c
   ·simp[a]
   ·simp[a,ih]
structure SbOk (v:Int) (p:Pk):Prop where
 known:ir v p.kind=true
 id1:1<=p.id
 id2:p.id<=65535
 old:v=4->p.props=[]
 have':lj v p=true
 same:p=sbQ v p
 props:(aM p.kind p.props).2=0
 filters:∀f∈p.filters,gj f.topic=true/\nT v p.kind f=true
 codes:∀c∈p.codes,xF v p.kind c=true
theorem NU{v:Int}{p:Pk}(h:sbE v p=0):SbOk v p:=by
 unfold sbE at h;cases a:xY v p
 ·rw[a,if_pos rfl]at h;exact absurd h (by decide)
 rw[a,Fl (by decide)]at h;by_cases c:(aM p.kind p.props).2=0;rotate_left
 ·rw[if_pos c]at h;exact absurd h c
 rw[Fl (λx=>x c)]at h;by_cases d:fiE v p.kind p.filters=0;rotate_left
 ·rw[if_pos d]at h;exact absurd h d
 rw[Fl (λx=>x d)]at h;unfold xY eH at a;simp only[eh,Bool.not_eq_true',Bool.or_eq_false_iff,cH,Ip,Kz]at a;obtain⟨e,⟨i,j,b⟩,f,g⟩:=a;refine⟨e,by omega,by omega,λx=>?_,f,g,c,MP.1 d,MQ.1 h⟩;rcases b with b| b
 ·exact absurd x b
 ·exact aF (by omega)
theorem ue{v k:Int}(h:ir v k=true):(jm k=true/\(k=8\/k=10))\/(jm k=false/\(k=9\/k=11)):=by
 have b:=aR h;by_cases a:k=8\/k=10
 ·exact .inl ⟨au a,a⟩
 ·exact .inr ⟨ah a,by omega⟩
theorem Iz{v:Int}{p:Pk}(h:p=sbQ v p)(ha:jm p.kind=true):p.codes=[]:=by
 rw[h];unfold sbQ;rw[if_pos ha];rfl
theorem Ib{v:Int}{p:Pk}(h:p=sbQ v p)(ha:jm p.kind=false):p.filters=[]:=by
 rw[h];unfold sbQ;rw[Fl (by rw[ha];decide)];split<;>rfl
theorem Eh(t:abO)(n:Nat)(h:n<64):BS (vB t n)=n:=by
 have:∀m:Fin 64,BS (vB t m.1)=m.1:=by
  intro m;have e:BS (vB t m.1)=BS (vB ⟨#[]⟩ m.1):=rfl;rw[e];clear e;revert m
  decide+kernel
 exact this ⟨n,h⟩
theorem Fz{t:abO}{a:Nat}{b:UInt8}{rest:List UInt8}(h:(ls t).drop a=b :: rest):a<t.size:=by
 have c:=congrArg List.length h;rw[bU,bM,aN]at c;omega
theorem tf{t:abO}{a:Nat}{b:UInt8}{rest:List UInt8}(h:(ls t).drop a=b :: rest):br t a 0 1=b.toNat:=by
 have c:=Fz h;rw[show((1:Int))=((1:Nat):Int)from rfl,sc (k:=1) (x:=[b]) (rest:=rest) h rfl (by omega)];simp[YZ]
theorem JI{s:abO}(h:gj s=true):YF s=true:=by
 unfold gj jY at h;simp only[eh]at h;exact h.1.2
theorem Lm{v k c:Int}(h:xF v k c=true):0<=c/\c<256:=by
 unfold xF at h;split at h
 ·unfold tq at h;simp at h;omega
 ·exact Yp h
theorem vA{v k:Int}{t:abO}{a:Nat}(hk:k=8\/k=10)(ha:a<=t.size)(h:(fiR v k t a).2.2=0):
  a<(fiR v k t a).2.1/\(fiR v k t a).2.1<=t.size/\(ls t).drop a=fiL k (fiR v k t a).1++(ls t).drop (fiR v k t a).2.1:=by
 have m:∀(d:(rtC t a 0).2.2=0),a+2<=(rtC t a 0).2.1/\(rtC t a 0).2.1<=t.size/\(ls t).drop a=ls (cQ (rtC t a 0).1)++(ls t).drop (rtC t a 0).2.1:=by
  intro d;obtain⟨q,r⟩:=Fq ha 0;rw[q]at d;rw[r d];obtain⟨-,f,-,-,l⟩:=sC d;rw[si,List.append_assoc];refine⟨?_,f,l⟩;have u:=congrArg List.length l;rw[bU,List.length_append,List.length_append,fM,bU,aN,aN]at u;omega
 unfold fiR at h⊢;rcases hk with rfl| rfl
 ·rw[if_pos rfl]at h⊢;simp only at h⊢;have c:iU v (br t (rtC t a 0).2.1 (rtC t a 0).2.2 1)=false:=by
   cases c:iU v (br t (rtC t a 0).2.1 (rtC t a 0).2.2 1)
   ·rfl
   ·unfold opR at h;rw[c,if_pos rfl]at h;exact(gW h (by decide)).elim
  unfold opR at h⊢;rw[c,Fl (by decide)]at h;simp only at h⊢;obtain⟨i,f,s⟩:=i7 (k:=1) h;obtain⟨w,p,g⟩:=m i;rw[i]at c⊢;have j:aH t (rtC t a 0).2.1 0 1=_:=s;rw[j];simp only;refine⟨by omega,f,?_⟩;obtain⟨b,e⟩:∃b,(ls t).drop (rtC t a 0).2.1=b :: (ls t).drop ((rtC t a 0).2.1+1):=⟨_,bQ (by rw[aN];omega)⟩;have o:=tf e;have n:b.toNat<64:=by
   rw[o]at c;unfold iU at c;simp only[Bool.or_eq_false_iff,Ip]at c;omega
  rw[g,e,o];unfold fiL;rw[if_pos rfl,Eh _ _ n,dN,UInt8.ofNat_toNat,List.append_assoc];rfl
 ·rw[Fl (by decide)]at h⊢;simp only at h⊢;obtain⟨w,p,g⟩:=m h;refine⟨by omega,p,?_⟩;unfold fiL;rw[Fl (by decide),YO];exact g
theorem qo{v k:Int}{t:abO}(hk:ir v k=true):∀(n a:Nat) (e:Int) (fi:List Fi) (cd:List Int),t.size- a<n->a<=t.size->(lsR v k t n a e fi cd).2.2.2=0->
  e=0/\∃l m,(lsR v k t n a e fi cd).1=fi++l/\(lsR v k t n a e fi cd).2.1=cd++m/\(ls t).drop a=l.flatMap (fiL k)++cdL m/\(jm k=true->m=[])/\(jm k=false->l=[])
 | n+1,a,e,fi,cd,hn,ha,h=>by
   unfold lsR at h⊢;by_cases hc:e≠0\/t.size<=a
   ·rw[if_pos hc]at h⊢;simp only at h⊢;refine⟨h,[],[],by simp,by simp,?_,λ_=>rfl,λ_=>rfl⟩;have:t.size<=a:=hc.resolve_left (λx=>x h);rw[gF (by rw[aN];omega)];rfl
   ·rw[Fl hc]at h⊢;have u:e=0:=aU.1 λx=>hc (.inl x);have y:a<t.size:=Nat.lt_of_not_le λx=>hc (.inr x);refine⟨u,?_⟩;rcases ue hk with ⟨c,f⟩ | ⟨c,f⟩
    ·rw[if_pos c]at h⊢;by_cases o:(fiR v k t a).2.2=0
     ·obtain⟨f1,r,s⟩:=vA f ha o;obtain⟨-,l,m,g,i,j,p,q⟩:=qo hk n _ _ _ _ (by omega) r h;refine⟨(fiR v k t a).1 :: l,m,by rw[g];simp,i,?_,p,λx=>by rw[c]at x;cases x⟩;rw[s,j,YS,List.append_assoc]
     ·exfalso;cases n with
      | zero=>omega
      | succ n=>
        unfold lsR at h;rw[if_pos (.inl o)]at h;exact o h
    ·rw[Fl (by rw[c];decide)]at h⊢;obtain⟨-,l,m,g,i,j,p,q⟩:=qo hk n _ _ _ _ (by omega) (by omega) h;obtain⟨b,d⟩:∃b,(ls t).drop a=b :: (ls t).drop (a+1):=⟨_,bQ (by rw[aN];omega)⟩;have w:=q c;subst w;refine⟨[],((br t a 0 1:Nat):Int) :: m,g,by rw[i];simp,?_,λx=>(by rw[c]at x;cases x),λ_=>rfl⟩;rw[d,j,tf d];simp[cdL]
theorem Bf{v k:Int}{s:abO}{q:Pk}(h:sbR v k s=(q,0)):sbE v q=0/\sbS v q=ls s/\q.kind=k:=by
 unfold sbR at h;cases e:ir v k
 ·rw[e,if_pos rfl]at h;injection h with _ h;exact absurd h (by decide)
 rw[e,Fl (by decide)]at h;by_cases b:(li v k s).2.2.2=0;rotate_left
 ·rw[if_pos b]at h;injection h with _ h;exact absurd h b
 rw[Fl (λx=>x b)]at h;by_cases c:sbE v (jj v k s)=0;rotate_left
 ·rw[if_pos c]at h;injection h with _ h;exact absurd h c
 rw[Fl (λx=>x c)]at h;injection h with h _
 subst h;refine⟨c,?_,rfl⟩;have i:(lh v k s).2.1<=s.size:=by
  have w:=dy (t:=s) (a:=0) (ag _) 0 2;unfold lh;exact Ec _ _ _ w
 unfold li at b;obtain⟨o,l,m,p,r,u,A,B⟩:=qo e _ _ _ _ _ (by omega) i b;have d:=o;unfold lh at d;obtain⟨y,C,D,E,f⟩:=yv (dy (t:=s) (a:=0) (ag _) 0 2) d;obtain⟨F,G,z⟩:=i7 (k:=2) y;have n:aH s 0 0 2=(s.extract 0 2,2,0):=z;have g:=lY (t:=s) (a:=0) (by omega);rw[Yl]at g;unfold sbS Bg jj jf;simp only;rw[List.append_assoc,List.append_assoc,dN,g]
 congr 1
 have j:fv v k s (aH s 0 0 2).2.1 (aH s 0 0 2).2.2=lh v k s:=rfl;rw[j]at f;rw[show(aH s 0 0 2).2.1=2 by rw[n]]at f;rw[show(0+2:Nat)=2 from rfl,f]
 congr 1
 unfold li;rw[p,r,dX,dX,u]
section
theorem Wi(q:Int):bits BinOp.and IntKind.i64 q 3=q% 4:=by
 show IntKind.i64.wrap ((BitVec.ofInt 64 q&&& BitVec.ofInt 64 3).toNat:Int)=_;rw[BitVec.toNat_and,show(BitVec.ofInt 64 3).toNat=2^ 2- 1 from rfl,kC,BitVec.toNat_ofInt,aQ];omega
theorem VT:∀a b:Fin 4,bits BinOp.or IntKind.i64 ((a.1:Nat):Int) (((b.1:Nat):Int)*16)=((a.1:Nat):Int)+((b.1:Nat):Int)*16:=by decide+kernel
theorem VU:∀a b:Fin 4,bits BinOp.or IntKind.i64 (((a.1:Nat):Int)+((b.1:Nat):Int)*16) 4=((a.1:Nat):Int)+((b.1:Nat):Int)*16+4:=by decide+kernel
theorem VE:∀a b:Fin 4,bits BinOp.or IntKind.i64 (((a.1:Nat):Int)+((b.1:Nat):Int)*16) 8=((a.1:Nat):Int)+((b.1:Nat):Int)*16+8:=by decide+kernel
theorem VW:∀a b:Fin 4,bits BinOp.or IntKind.i64 (((a.1:Nat):Int)+((b.1:Nat):Int)*16+4) 8=((a.1:Nat):Int)+((b.1:Nat):Int)*16+12:=by decide+kernel
theorem VZ(f:Fi):∃A B:Int,f.qos% 4=A/\f.handling% 4=B/\bits BinOp.or IntKind.i64 A (B*16)=A+B*16/\bits BinOp.or IntKind.i64 (A+B*16) 4=A+B*16+4/\bits BinOp.or IntKind.i64 (A+B*16) 8=A+B*16+8/\
  bits BinOp.or IntKind.i64 (A+B*16+4) 8=A+B*16+12:=by
 obtain⟨a,c⟩:∃a:Fin 4,f.qos% 4=((a.1:Nat):Int):=⟨⟨(f.qos% 4).toNat,by omega⟩,by simp only;omega⟩;obtain⟨b,d⟩:∃b:Fin 4,f.handling% 4=((b.1:Nat):Int):=⟨⟨(f.handling% 4).toNat,by omega⟩,by simp only;omega⟩;exact⟨_,_,c,d,VT a b,VU a b,VE a b,VW a b⟩
theorem VF(f:Fi)(w:abP):
  abR 162 #[.agg #[.string f.topic,.int .i64 f.qos,.bool f.noLocal,.bool f.asPub,.int .i64 f.handling]] w (.int .i64 (BS f)):=by
 obtain⟨A,B,c,d,m,n,o,p⟩:=VZ f;have i:Hid (BS f=A+B*16+pc f.noLocal 4+pc f.asPub 8):=aa (by unfold BS;rw[c,d]);have j:=Wi f.qos;have k:=Wi f.handling;have C:0<=B/\B<4:=by omega
 rw[c]at j;rw[d]at k;have s:=aa m;have u:=aa n;have v:=aa o;have x:=aa p
 clear c d m n o p;obtain⟨t,q,g,b,l⟩:=f;simp only at i j k⊢;generalize BS ⟨t,q,g,b,l⟩=R at*;have h:=aa ((aq w.heap.size w).alloc (ac _) (.cells #[.string t,.int .i64 q,.bool g,.bool b,.int .i64 l] 49));cases g<;>cases b
 all_goals
  go_enter func162,ntmps162;go_wp2;go_ret;refine⟨?_,h.o⟩;have e:=i.o;simp only[pc,if_true,if_false,Bool.false_eq_true,Int.add_zero]at e;rw[e];have a:=s.o;have r:=u.o;have y:=v.o;have z:=x.o
  show Ending.returned (Value.int .i64 _)=_
  first
  | rw[a,r,z];congr 2;omega
  | rw[a,r]
  | rw[a,y]
  | rw[a]
theorem NT{v:Int}{p:Pk}(k:Nat):(Bg v p++(p.filters.take k).flatMap (fiL p.kind)).length<=(sbS v p).length:=by
 unfold sbS;have:(p.filters.flatMap (fiL p.kind)).length=((p.filters.take k).flatMap (fiL p.kind)).length+((p.filters.drop k).flatMap (fiL p.kind)).length:=by
  rw[<-List.length_append,<-fR,cg]
 rw[List.length_append,List.length_append,List.length_append];omega
theorem Nd{v:Int}{p:Pk}(k:Nat):(Bg v p++p.filters.flatMap (fiL p.kind)++cdL (p.codes.take k)).length<=(sbS v p).length:=by
 unfold sbS cdL;simp only[List.length_append,eD,cY];omega
theorem PK{k:Int}{l:List Fi}{i:Nat}{f:Fi}(hf:l[i]? =some f):(l.take (i+1)).flatMap (fiL k)=(l.take i).flatMap (fiL k)++fiL k f:=by
 rw[List.take_add_one,hf,fR];simp
theorem PN{l:List Int}{i:Nat}{c:Int}(hc:l[i]? =some c):cdL (l.take (i+1))=cdL (l.take i)++[UInt8.ofNat c.toNat]:=by
 unfold cdL;rw[List.take_add_one,hc,Ii];simp
theorem MR{c:Int}(h:0<=c/\c<256):∃b:UInt8,UInt8.ofNat c.toNat=b/\c=(b.toNat:Int):=⟨_,rfl,by rw[UInt8.toNat_ofNat'];omega⟩
theorem vV{w w':abP}{r:Option Nat}{g:Nat}{t:TypeId}{cs:Array Value}(hg:w.grownBy w' r)(h:Bk w g t cs)(hne:r≠some g):Bk w' g t cs:=
 (hg.block g h.lt (by first| exact hne| exact hne.symm)).trans h
theorem Vp(v:Int)(p:Pk)(h:Hs)(w:abP)(ip:PkIn w w.heap.size p h)(ok:PkOk p)(hz:(sbS v p).length<=140737488351232):
  abR 104 #[.int .i64 v,pkV p h] w (.tuple #[.string (sbB v p).1,.int .i64 (sbB v p).2]):=by
 have U:=aa ok;have HZ:=aa hz;have S0:=aa ((St.start w).push ip);have HE:Hid (sbB v p=if sbE v p=0 then(⟨(sbS v p).toArray⟩,0)else(⟨#[]⟩,sbE v p)):=aa rfl;have l0:=S0.o.ld 0 rfl;clear ip ok hz;go_enter func104,ntmps104;go_wp2_with fail;refine Yg (lg v p h _ (S0.o.into 0 rfl) U.o) λw1 x=>?_;have S1:=aa (S0.o.below x);clear x l0
 by_cases J:sbE v p=0;rotate_left
 ·have HX:Hid (sbB v p=(⟨#[]⟩,sbE v p)):=aa (by rw[HE.o,Fl J]);have e0:(sbE v p !=0)=true:=aA.2 J;clear J;go_wp2;go_ret2;exact⟨by rw[HX.o];rfl,S1.o.kept⟩
 have HX:Hid (sbB v p=(⟨(sbS v p).toArray⟩,0)):=aa (by rw[HE.o,if_pos J]);have G:=aa (NU J);have e0:(sbE v p !=0)=false:=by rw[J];rfl
 clear J HE;have k4:=(S1.o.cell 0 rfl 4).trans (dj _ _);obtain⟨n,hn,bq⟩:∃n:Nat,Hid (p.id.toNat=n)/\IntKind.u64.wrap p.id=(n:Int):=⟨_,aa rfl,by rw[iZ];have:=G.o.id1;have:=G.o.id2;omega⟩;go_wp2_with fail;refine Yg (pD n 2 _ (by have:=hn.out;have:=G.o.id2;have:=G.o.id1;omega) (by omega) (by omega)) λl x=>?_;have V:=aa (S1.o.below x);clear x k4 bq e0;obtain⟨v3,w3,aS,aj,af⟩:=V7 (P:=prog) l 9 139 5 ⟨(Yk n 2).toArray⟩ underlying9 underlying139 underlying5;rw[jo]at aj;have O3:=aa aj;have B3:=aa af
 have S3:=aa (V.o.below af);clear aj af;have k0:=(S3.o.cell 0 rfl 0).trans (cI _ _);have aX:=(S3.o.cell 0 rfl 24).trans (bR _ _);have aP:Hid (Bg v p=Yk n 2++gP v p.kind p.props):=aa (by unfold Bg;rw[hn.out])
 go_upto_if 28 with fail
 go_cut [7] (λa wx=>OB wx l.heap.size a (Bg v p)/\abQ l wx)
 case first=>
  by_cases h5:v=5
  ·have e5:(v==5)=true:=aK.2 h5;have HT:Hid (Bg v p=Yk n 2++(aM p.kind p.props).1):=aa (by rw[aP.o];unfold gP;rw[Fl (by omega)]);clear h5;go_wp2_with fail;refine Yg (UB p.kind p.props _ rfl U.o.props h.props.a h.props.c _ (S3.o.into 0 rfl).props U.o.len.2.2.2) λw4 x=>?_;have O4:=aa (O3.o.below x);have X:=aa (Yf B3.o x);have ai:(aM p.kind p.props).1.length<=140737488351232:=by
    have h1:=NT (v:=v) (p:=p) 0;have h2:=HZ.o;rw[List.length_append,HT.o,List.length_append]at h1;omega
   have a1:=aa ai;clear x ai k0 aX;go_wp2_with (at_builtin;refine UF _ rfl (.tmp 37) (.tmp 38) 139 9 rfl l.heap.size 5 underlying139 underlying9 ku v3 _ rfl O4.o _ rfl (by rw[fM,<-aN,jo];have:=a1.o;omega) X.o.size ?_;intro v' w5 d q);have R:OB w5 l.heap.size v' (Bg v p)/\abQ l w5:=by
    refine⟨?_,kz X.o q X.o.size (λg r=>(O4.o.block g r).1)⟩;rw[HT.o];rw[jo]at d;exact d
   clear d q;go_wp2;go_meet
   case rel=>exact R
  ·have e5:(v==5)=false:=ar.2 h5;have HT:Hid (Bg v p=Yk n 2):=aa (by
    have:=aR (show decide ((v=4\/v=5)/\8<=p.kind/\p.kind<=11)=true from G.o.known);rw[aP.o];unfold gP;rw[if_pos (by omega),YO])
   clear h5;go_wp2;go_meet
   case rel=>exact⟨by rw[HT.o];exact O3.o,B3.o⟩
 obtain⟨aT,ag⟩:=hcut;have O4:=aa aT;have X:=aa ag
 have S4:=aa (V.o.below ag);clear aT ag k0 aX aS;have bd:=aa U.o.len.2.2.1;have bc:=aa U.o.len.2.1;obtain⟨N,hN⟩:∃n,p.filters.length=n:=⟨_,rfl⟩;obtain⟨M,hM⟩:∃m,p.codes.length=m:=⟨_,rfl⟩;have aW:=S4.o.cell 0 rfl 23;rw[bP,hN]at aW;have HN:=aa hN;have HM:=aa hM
 have bL:N<=4611686018427387904:=by have:=bd.o;omega
 have bK:M<=4611686018427387904:=by have:=bc.o;omega
 clear hN hM;go_wp2
 go_loopw [7,43] (λo i wr=>∃k:Nat,k<=N/\i= .int .i64 k/\OB wr l.heap.size o (Bg v p++(p.filters.take k).flatMap (fiL p.kind))/\abQ l wr) (λ_ i _=>N- (intOf i).toNat)
 case atStart=>exact⟨0,by omega,rfl,by rw[GZ,List.flatMap_nil,YO];exact O4.o,X.o⟩
 case round=>
  obtain⟨k,hk,rfl,d,I⟩:=hrel;have S5:=aa (V.o.below I);have O5:=aa d;have B5:=aa I
  clear d I aW;have kk:=(S5.o.cell 0 rfl 0).trans (cI _ _);have ao:=S5.o.cell 0 rfl 22;rw[bS,HM.o]at ao;by_cases bo:k<N
  ·have E:k<p.filters.length:=by rw[HN.o];exact bo
   obtain⟨b,o,hA,x,c0,c1,c2,c3,c4⟩:=((S5.o.into 0 rfl).filters).atF E;have aV:=U.o.topics p.filters[k] (iY E);have aU:=G.o.filters p.filters[k] (iY E);have t:=aa (PK (k:=p.kind) (List.getElem?_eq_getElem E));have u:=aa (NT (v:=v) (p:=p) (k+1));generalize p.filters[k]=f at*;have bg:=aa aV;have HV:=aa (JI aU.1);have bh:Hid (IM f.topic=(cQ f.topic,0)):=aa (by unfold IM;rw[if_pos HV.o]);rw[t.o,<-List.append_assoc]at u;have Y:Hid ((Bg v p++(p.filters.take k).flatMap (fiL p.kind)).length+(fiL p.kind f).length<=140737488351232):=aa (by
    have:=u.o;have:=HZ.o;rw[List.length_append]at*;rw[List.length_append]at*;omega)
   have b1:(0:Int)<=(k:Int):=by omega
   have b2:(k:Int)<(N:Int):=by omega
   clear E aV aU;obtain⟨L,H⟩:∃L,Bg v p++(p.filters.take k).flatMap (fiL p.kind)=L:=⟨_,rfl⟩;rw[H]at Y O5;have O:=aa H;clear H u;have S6:=aa (S5.o.alloc (.cells #[.string f.topic,.int .i64 f.qos,.bool f.noLocal,.bool f.asPub,.int .i64 f.handling] 49));have B6:=aa (B5.o.alloc B5.o.size (.cells #[.string f.topic,.int .i64 f.qos,.bool f.noLocal,.bool f.asPub,.int .i64 f.handling] 49));have O6:=aa (O5.o.alloc (.cells #[.string f.topic,.int .i64 f.qos,.bool f.noLocal,.bool f.asPub,.int .i64 f.handling] 49));have K6:=aa (Bk.fresh wr 49 #[.string f.topic,.int .i64 f.qos,.bool f.noLocal,.bool f.asPub,.int .i64 f.handling]);go_wp2_with fail;refine Yg (UW f.topic _ (by have:=bg.o;omega)) λw6 D=>?_;have S7:=aa (S6.o.below D);have s:=aa (Yf B6.o D);have C:=aa (O6.o.below D);have K7:=aa (Yh K6.o D);clear D kk ao c0 c1 c2 c3 c4;rw[bh.o];simp only;have aO:Hid (L.length+(cQ f.topic).size<=140737488351232):=aa (by
    have:=Y.o;unfold fiL at this;rw[List.length_append,aN]at this;omega)
   have bf:Hid (u7.ownBlock≠some wr.heap.size):=aa (by
    obtain⟨g,cap,hv,h1,h2,-⟩:=O5.o;rw[hv];intro e;have:g=wr.heap.size:=Option.some.inj e;omega)
   by_cases W:p.kind=8
   ·have e8:(p.kind==8)=true:=aK.2 W;obtain⟨y,hy,B⟩:=MR (c:=BS f) (by have:=Ly f;omega);have K:Hid (fiL p.kind f=ls (cQ f.topic)++[y]):=aa (by unfold fiL;rw[if_pos W,hy]);have br:IntKind.u8.wrap (y.toNat:Int)=(y.toNat:Int):=by have:=y.toNat_lt;rw[GM];omega
    have aQ:=aa B;clear W hy B;go_wp2_with (at_builtin;refine UF _ rfl (.tmp 53) (.tmp 54) 139 9 rfl l.heap.size 5 underlying139 underlying9 ku u7 _ rfl C.o _ rfl (by have:=aO.o;omega) s.o.size ?_;intro v' w8 d q;have S:=aa (kz s.o q s.o.size (λg r=>(C.o.block g r).1));have O8:=aa d;have S8:=aa (V.o.below S.o);have Z:Hid (Bk w8 wr.heap.size 49 #[.string f.topic,.int .i64 f.qos,.bool f.noLocal,.bool f.asPub,.int .i64 f.handling]):=aa (vV q K7.o bf.o);clear d q;have kk:=(S8.o.cell 0 rfl 0).trans (cI _ _);have c0:=Z.o.cell 0;have c1:=Z.o.cell 1;have c2:=Z.o.cell 2;have c3:=Z.o.cell 3;have c4:=Z.o.cell 4;simp only[ay,aE,aB]at c0 c1 c2 c3 c4);refine Yg (VF f _) λw9 Q=>?_;have S9:=aa (S8.o.below Q);have T:=aa (Yf S.o Q);have O9:=aa (O8.o.below Q);clear Q kk c0 c1 c2 c3 c4;rw[aQ.o];go_wp2_with (at_builtin;refine UN _ rfl (.tmp 59) (.tmp 63) 139 rfl l.heap.size 5 underlying139 ku v' _ rfl (O9.o.alloc _) _ _ 1 [y] rfl (Rd.lit _ _ _ rfl (ed _) rfl) (by have:=Y.o;rw[K.o,List.length_append]at this;rw[List.length_append];omega) (T.o.alloc T.o.size _).size ?_;intro aq F d q);have R:OB F l.heap.size aq (L++fiL p.kind f)/\abQ l F:=by
     refine⟨?_,kz (T.o.alloc T.o.size _) q (T.o.alloc T.o.size _).size (λg r=>(O9.o.block g r).1)⟩;rw[K.o,<-List.append_assoc];exact d
    have RR:=aa R;clear d q R;go_wp2;go_roundw
    case rel=>
     simp only[hA]
     (repeat apply Exists.intro)
     refine⟨?_,rfl⟩;exact⟨k+1,by omega,by go_num,by rw[t.o,<-List.append_assoc,O.o];exact RR.o.1,RR.o.2⟩
    case measure=>simp[intOf];omega
   ·have e8:(p.kind==8)=false:=ar.2 W;have K:Hid (fiL p.kind f=ls (cQ f.topic)):=aa (by unfold fiL;rw[Fl W,YO]);clear W;go_wp2_with (at_builtin;refine UF _ rfl (.tmp 53) (.tmp 54) 139 9 rfl l.heap.size 5 underlying139 underlying9 ku u7 _ rfl C.o _ rfl (by have:=aO.o;omega) s.o.size ?_;intro v' w8 d q;have S:=aa (kz s.o q s.o.size (λg r=>(C.o.block g r).1));have O8:=aa d;have S8:=aa (V.o.below S.o);clear d q;have kk:=(S8.o.cell 0 rfl 0).trans (cI _ _));go_roundw
    case rel=>
     simp only[hA]
     (repeat apply Exists.intro)
     refine⟨?_,rfl⟩;exact⟨k+1,by omega,by go_num,by rw[t.o,<-List.append_assoc,O.o,K.o];exact O8.o,S.o⟩
    case measure=>simp[intOf];omega
  ·obtain rfl:k=N:=by omega
   have O6:Hid (OB wr l.heap.size u7 (Bg v p++p.filters.flatMap (fiL p.kind))):=aa (by
    have:=O5.o;rw[<-HN.o,GK]at this;exact this)
   clear O5;go_wp2
   go_loopw [7,69] (λo i wq=>∃j:Nat,j<=M/\i= .int .i64 j/\OB wq l.heap.size o (Bg v p++p.filters.flatMap (fiL p.kind)++cdL (p.codes.take j))/\abQ l wq) (λ_ i _=>M- (intOf i).toNat)
   case atStart=>exact⟨0,by omega,rfl,by rw[GZ];show OB _ _ _ (_++[]);rw[YO];exact O6.o,B5.o⟩
   case round=>
    obtain⟨j,hj,rfl,d,ah⟩:=hrel;have S6:=aa (V.o.below ah);have C:=aa d;have s:=aa ah
    clear d ah kk ao;by_cases ba:j<M
    ·have E:j<p.codes.length:=by rw[HM.o];exact ba
     obtain⟨b,o,z,hA,x,an,hc⟩:=((S6.o.into 0 rfl).codes).atI E;have ae:=Lm (G.o.codes z (iL an));have t:=aa (PN an);have u:=aa (Nd (v:=v) (p:=p) (j+1));obtain⟨y,hy,B⟩:=MR ae;rw[hy]at t;have aQ:=aa B;rw[t.o,<-List.append_assoc]at u;have br:IntKind.u8.wrap (y.toNat:Int)=(y.toNat:Int):=by have:=y.toNat_lt;rw[GM];omega
     rw[B]at hc;have b1:(0:Int)<=(j:Int):=by omega
     have b2:(j:Int)<(M:Int):=by omega
     clear E an ae hy B;obtain⟨L,H⟩:∃L,Bg v p++p.filters.flatMap (fiL p.kind)++cdL (p.codes.take j)=L:=⟨_,rfl⟩;rw[H]at u C;have O:=aa H;clear H;go_wp2_with (at_builtin;refine UN _ rfl (.tmp 73) (.tmp 76) 139 rfl l.heap.size 5 underlying139 ku u7 _ rfl (C.o.alloc _) _ _ 1 [y] rfl (Rd.lit _ _ _ rfl (ed _) rfl) (by have:=u.o;have:=HZ.o;rw[List.length_append]at*;omega) (s.o.alloc s.o.size _).size ?_;intro aq F d q);have R:OB F l.heap.size aq (L++[y])/\abQ l F:=
      ⟨d,kz (s.o.alloc s.o.size _) q (s.o.alloc s.o.size _).size (λg r=>(C.o.block g r).1)⟩
     have RR:=aa R;clear d q R;go_wp2;go_roundw
     case rel=>
      simp only[hA]
      (repeat apply Exists.intro)
      refine⟨?_,rfl⟩;exact⟨j+1,by omega,by go_num,by rw[t.o,<-List.append_assoc,O.o];exact RR.o.1,RR.o.2⟩
     case measure=>simp[intOf];omega
    ·obtain rfl:j=M:=by omega
     have O8:Hid (OB wr l.heap.size u7 (sbS v p)):=aa (by
      have:=C.o;rw[<-HM.o,GK]at this;exact this)
     obtain⟨A,c,rfl,ak⟩:=O8.o.rd;have aS:=ni (P:=prog) 139 9 5 underlying139 underlying5 underlying9 c ak;have bJ:=aa ak;clear ak;go_wp2;go_ret2;exact⟨by rw[HX.o];rfl,S6.o.kept⟩
theorem Fy:∀n:Fin 256,(bits BinOp.andNot IntKind.i64 (n.1:Int) 63 !=0)=decide (63<n.1)/\(bits BinOp.andNot IntKind.i64 (n.1:Int) 3 !=0)=decide (3<n.1)/\
  bits BinOp.and IntKind.i64 (n.1:Int) 3=((n.1% 4:Nat):Int)/\bits BinOp.and IntKind.i64 ((n.1:Int) / 16) 3=((n.1/ 16% 4:Nat):Int)/\
  (bits BinOp.and IntKind.i64 (n.1:Int) 4 !=0)=decide (n.1/ 4% 2=1)/\(bits BinOp.and IntKind.i64 (n.1:Int) 8 !=0)=decide (n.1/ 8% 2=1):=by decide+kernel
def dI(f:Fi):Array Value:=#[.string f.topic,.int .i64 f.qos,.bool f.noLocal,.bool f.asPub,.int .i64 f.handling]
theorem Cur.four{w:abP}{g a gf:Nat}{t:abO}{e:Int}(h:Cur w g t a e)(hne:gf≠g)(x1 x4 x2 x3:Value):Cur ((((w.setCell ⟨gf,1,none⟩ x1).setCell ⟨gf,4,none⟩ x4).setCell ⟨gf,2,none⟩ x2).setCell ⟨gf,3,none⟩ x3) g t a e:=
 ⟨(((h.1.other (λe=>hne e.symm) _).other (λe=>hne e.symm) _).other (λe=>hne e.symm) _).other (λe=>hne e.symm) _,h.2⟩
theorem lZ(w:abP)(g gf:Nat)(x1 x4 x2 x3:Value):Mods (two g gf) w ((((w.setCell ⟨gf,1,none⟩ x1).setCell ⟨gf,4,none⟩ x4).setCell ⟨gf,2,none⟩ x2).setCell ⟨gf,3,none⟩ x3):=
 ((((Mods.refl w).set gf 1 (.inl (.inr rfl)) _).set gf 4 (.inl (.inr rfl)) _).set gf 2 (.inl (.inr rfl)) _).set gf 3 (.inl (.inr rfl)) _
theorem l8{w:abP}{gf:Nat}{tp:abO}(h:Bk w gf 49 (dI ⟨tp,0,false,false,0⟩))(q hd:Int)(nl ap:Bool):
  Bk ((((w.setCell ⟨gf,1,none⟩ (.int .i64 q)).setCell ⟨gf,4,none⟩ (.int .i64 hd)).setCell ⟨gf,2,none⟩ (.bool nl)).setCell ⟨gf,3,none⟩ (.bool ap)) gf 49 (dI ⟨tp,q,nl,ap,hd⟩):=
 (((h.upd 1 (.int .i64 q) (cs':=dI ⟨tp,q,false,false,0⟩) rfl).upd 4 (.int .i64 hd) (cs':=dI ⟨tp,q,false,false,hd⟩) rfl).upd 2 (.bool nl) (cs':=dI ⟨tp,q,nl,false,hd⟩) rfl).upd 3 (.bool ap) (cs':=dI ⟨tp,q,nl,ap,hd⟩) rfl
theorem wN(v:Int)(hv:v=4\/v=5)(g a:Nat)(t:abO)(e:Int)(gf:Nat)(tp:abO)(w:abP)(h:Cur w g t a e)(hf:Bk w gf 49 (dI ⟨tp,0,false,false,0⟩))(hne:gf≠g):
  Calls prog 233 #[.int .i64 v,.pointer (some ⟨g,0,none⟩),.pointer (some ⟨gf,0,none⟩)] w λe' w'=>
   e'= .returned (.tuple #[])/\Cur w' g t (opR v t a e).2.1 (opR v t a e).2.2/\Bk w' gf 49 (dI (vB tp (opR v t a e).1))/\Mods (two g gf) w w':=by
 have U:=aa h;have V:=aa hf;have m:=aa hne
 have f:Hid (opR v t a e=(br t a e 1,(aH t a e 1).2.1,if iU v (br t a e 1)=true then fh (aH t a e 1).2.2 7 else(aH t a e 1).2.2)):=aa rfl;have K:=iV t a e;clear h hf hne;go_enter func233,ntmps233;go_wp2_with fail;refine(dR g a t e 1 _ U.o (by decide)).mono ?_;rintro e' w1 ⟨rfl,p,k⟩;have j:=aa p;have b:=aa (V.o.mods (qb (S:=λi=>i=g) k rfl) (λe=>m.o e));have y:Hid (Mods (two g gf) w w1):=aa (qb k (.inl rfl));clear p k;generalize br t a e 1=n at*;obtain⟨R,J⟩:∃R,aH t a e 1=R:=⟨_,rfl⟩;rw[J]at f j;clear J;obtain⟨T,C,G⟩:=R;simp only at f j⊢;obtain⟨z,A,X,Y,Z,o6⟩:=Fy ⟨n,K⟩;simp only at z A X Y Z o6;rcases hv with rfl| rfl
 focus
  have o:Hid (decide (3<n)=iU 4 n):=aa (by unfold iU;rw[au rfl,aL,eG,Bool.or_eq_true];simp only[cH];omega);by_cases c:3<n
  focus
   have l:Hid (iU 4 n=true):=aa (by rw[<-o.out,au c]);rw[au c]at A
  rotate_left
  ·have l:Hid (iU 4 n=false):=aa (by rw[<-o.out,ah c]);rw[ah c]at A;rw[l.o,Fl (by decide)]at f;clear c;obtain⟨⟨D,E,F⟩,H,f1,I⟩:=j.o.cells;have q:=b.o.cell 0;have r:=b.o.cell 1;have s:=b.o.cell 2;have u:=b.o.cell 3;have x:=b.o.cell 4
   have L:=b.o.free 0;have M:=b.o.free 1;have N:=b.o.free 2;have O:=b.o.free 3;have P:=b.o.free 4
   simp only[dI,ay,aE,aB]at q r s u x;go_wp2
   go_end0
   rw[f.o];refine⟨rfl,?_,?_,?_⟩
   ·exact j.o.four (λe=>m.o e) _ _ _ _
   ·exact l8 b.o _ _ _ _
   ·exact y.o.trans (lZ _ _ _ _ _ _ _)
 rotate_left
 focus
  have o:Hid (decide (63<n)=iU 5 n):=aa (by unfold iU;rw[show decide ((5:Int)=4)=false from rfl,YH,Bool.or_false]);by_cases c:63<n
  focus
   have l:Hid (iU 5 n=true):=aa (by rw[<-o.out,au c]);rw[au c]at z
  rotate_left
  ·have l:Hid (iU 5 n=false):=aa (by rw[<-o.out,ah c]);rw[ah c]at z;rw[l.o,Fl (by decide)]at f;clear c;obtain⟨⟨D,E,F⟩,H,f1,I⟩:=j.o.cells;have q:=b.o.cell 0;have r:=b.o.cell 1;have s:=b.o.cell 2;have u:=b.o.cell 3;have x:=b.o.cell 4
   have L:=b.o.free 0;have M:=b.o.free 1;have N:=b.o.free 2;have O:=b.o.free 3;have P:=b.o.free 4
   simp only[dI,ay,aE,aB]at q r s u x;go_wp2
   go_end0
   rw[f.o];refine⟨rfl,?_,?_,?_⟩
   ·exact j.o.four (λe=>m.o e) _ _ _ _
   ·exact l8 b.o _ _ _ _
   ·exact y.o.trans (lZ _ _ _ _ _ _ _)
 rotate_left
 all_goals
  rw[l.o,if_pos rfl]at f;clear c;go_wp2_with fail;refine(cB g C t G 7 _ j.o).mono ?_;rintro e' Q ⟨rfl,p,k⟩;have B:Hid (Cur Q g t C (fh G 7)):=aa p;have d:=aa (b.o.mods (qb (S:=λi=>i=g) k rfl) (λe=>m.o e));have W:Hid (Mods (two g gf) w Q):=aa (y.o.trans (qb k (.inl rfl)));clear p k;obtain⟨⟨D,E,F⟩,H,f1,I⟩:=B.o.cells;have q:=d.o.cell 0;have r:=d.o.cell 1;have s:=d.o.cell 2;have u:=d.o.cell 3;have x:=d.o.cell 4
  have L:=d.o.free 0;have M:=d.o.free 1;have N:=d.o.free 2;have O:=d.o.free 3;have P:=d.o.free 4
  simp only[dI,ay,aE,aB]at q r s u x;go_wp2
  go_end0
  rw[f.o];refine⟨rfl,?_,?_,?_⟩
  ·exact B.o.four (λe=>m.o e) _ _ _ _
  ·exact l8 d.o _ _ _ _
  ·exact W.o.trans (lZ _ _ _ _ _ _ _)
end
end Go.Proofs.YtafoknnjekegkaaGreatDoor
namespace Go.Proofs.YtafoknnjekegkaaGreatDoor
open Go
open Go.Proofs.Tryz
section
variable {P:Program} {ops:Array Oper} {Q:Exit->Act->abP->Prop} {md:Region.Mode} {S:abP->Prop} {D:List Nat}
def pd(P:Program)(md:Region.Mode)(ops:Array Oper)(Q:Exit->Act->abP->Prop)(S:abP->Prop)(D:List Nat):Nat->Array Bool->Act->abP->Prop
 | 0,listed,a,w=>Region.ready md ops listed=[]/\Q .normal a w
 | fuel+1,listed,a,w=>
   (Region.ready md ops listed=[]->Q .normal a w)/\
   ∀i∈Region.ready md ops listed,wpOp P ops Q i (λa' w'=>((∀d∈D,(listed.setIfInBounds i true).getD d true=false)->S w')/\pd P md ops Q S D fuel (listed.setIfInBounds i true) a' w') a w
theorem vO:∀(fuel:Nat) (listed:Array Bool) (a:Act) (w:abP),pd P md ops Q S D fuel listed a w->wpAny P md ops Q fuel listed a w
 | 0,_,_,_,h=>h
 | fuel+1,_,_,_,h=>⟨h.1,λi hi=>wpOp_mono (λa' w' h'=>vO fuel _ a' w' h'.2) (h.2 i hi)⟩
theorem tr{listed:Array Bool}{i:Nat}(h:listed.getD i true=false):listed.getD i false=false:=by
 rcases fj i listed.size with a| a
 ·simp[a]at h⊢;exact h
 ·simp[Array.getElem?_eq_none a]at h
def tH(md:Region.Mode)(ops:Array Oper)(i:Nat)(L:List Nat):Bool:=
 L.all λj=>match ops[j]? with
  | some oj=>j !=i&&oj.after.any λe=>Region.binds md e&&(e.on==i || L.contains e.on)
  | none=>false
theorem oW{i:Nat}{L:List Nat}(h:tH md ops i L=true)(j:Nat)(hj:j∈L):
  j≠i/\∃oj,ops[j]? =some oj/\∃e∈oj.after,Region.binds md e=true/\(e.on=i\/e.on∈L):=by
 have a:=dL.1 h j hj;split at a
 ·rename_i oj c;simp only[eh,aA]at a;obtain⟨e,d,b⟩:=Array.any_eq_true'.1 a.2;simp only[eh,Bool.or_eq_true,aK,IE]at b;exact⟨a.1,oj,c,e,d,b.1,b.2⟩
 ·cases a
theorem xE{i:Nat}{oi:Oper}{v:Value}{L:List Nat}(hi:ops[i]? =some oi)(hsel:∀(j:Nat) (o:Oper) cs b,ops[j]? =some o->o.op≠ .select cs b)
  (hQ:∀c a w,Q (.panic c) (a.put oi.dst v) w->Q (.panic c) a w)(hD:∀d∈D,d∈L)(hL:tH md ops i L=true):
  ∀(fuel:Nat) (listed:Array Bool) (a:Act) (w:abP),
   (∀j oj,ops[j]? =some oj->j≠i->listed.getD j true=false->(∀e∈oj.after,Region.binds md e=true->e.on≠i)->oi.apart ops oj=true)->
   i∈Region.ready md ops listed->(∀j∈L,listed.getD j true=false)->YieldsIf P ops S oi v a->S w->
   pd P md ops Q S D fuel (listed.setIfInBounds i true) (a.put oi.dst v) w->pd P md ops Q S D (fuel+1) listed a w:=by
 intro fuel
 induction fuel with
 | zero=>
   intro listed a w _ n g I t H;refine⟨λh=>(by rw[h]at n;cases n),λj F=>?_⟩;by_cases f:j=i
   ·subst f;exact I.wpOp hi t ⟨λ_=>t,H⟩
   ·have:=ready_mono F f;rw[H.1]at this;cases this
 | succ fuel ih=>
   intro listed a w p n g I t H;refine⟨λh=>(by rw[h]at n;cases n),λj F=>?_⟩;by_cases f:j=i
   ·subst f;exact I.wpOp hi t ⟨λ_=>t,H⟩
   ·have C:=H.2 j (ready_mono F f);obtain⟨A,oj,r,u⟩:=mem_ready.1 F;have z:=(mem_ready.1 n).1;have M:∀e∈oj.after,Region.binds md e=true->e.on≠i:=λe K J T=>by
     have C:=u e K J;rw[T,tr z]at C;cases C
    have l:j ∉ L:=λl=>by
     obtain⟨-,Z,W,e,K,J,m⟩:=oW hL j l;have:Z=oj:=Option.some.inj (W.symm.trans r);subst this;have s:=u e K J;rcases m with m| m
     ·rw[m,tr z]at s;cases s
     ·rw[tr (g _ m)]at s;cases s
    have s:=wpOp_putIf r (p j oj r f A M) (λcs b=>hsel i oi cs b hi) (λcs b=>hsel j oj cs b r) hQ I C;have y:∀k ok,ops[k]? =some ok->k≠i->(listed.setIfInBounds j true).getD k true=false->
      (∀e∈ok.after,Region.binds md e=true->e.on≠i)->oi.apart ops ok=true:=λk ok G U g V=>by
     refine p k ok G U ?_ V;by_cases q:j=k
     ·subst q;exact A
     ·rw[getD_set_ne true q]at g;exact g
    have N:∀k∈L,(listed.setIfInBounds j true).getD k true=false:=λk G=>by
     have q:j≠k:=λh=>by rw[h]at l;exact l G
     rw[getD_set_ne true q];exact g k G
    have B:∀d∈D,((listed.setIfInBounds i true).setIfInBounds j true).getD d true=false:=λd Y=>by
     have x:=hD d Y;have O:i≠d:=λh=>(oW hL d x).1 h.symm;have R:j≠d:=λh=>by rw[h]at l;exact l x
     rw[getD_set_ne true R,getD_set_ne true O];exact g d x
    refine wpOp_mono (λX w' E=>⟨λ_=>E.2.1 B,ih (listed.setIfInBounds j true) X w' y (ready_mono n (Ne.symm f)) N E.1 (E.2.1 B) ?_⟩) s;rw[Array.setIfInBounds_comm _ _ f];exact E.2.2
def Gh(listed:Array Bool)(L:List Nat):Bool:=L.all λj=>!listed.getD j true
theorem aJ{i:Nat}(L:List Nat){oi:Oper}{v:Value}{fuel:Nat}{listed:Array Bool}{a:Act}{w:abP}(hi:ops[i]? =some oi)
  (hs:Region.noSelect ops=true)(hf:Region.free md ops listed i=true)(hr:(Region.ready md ops listed).contains i=true)
  (hL:tH md ops i L=true)(hD:(D.all λd=>L.contains d)=true)(hn:Gh listed L=true)
  (hQ:∀c a w,Q (.panic c) (a.put oi.dst v) w->Q (.panic c) a w)(hy:YieldsIf P ops S oi v a)(hS:S w)
  (h:pd P md ops Q S D fuel (listed.setIfInBounds i true) (a.put oi.dst v) w):pd P md ops Q S D (fuel+1) listed a w:=
 xE (L:=L) hi (Region.noSelect_spec hs) hQ (λd b=>by simpa using dL.1 hD d b) hL fuel listed a w (Region.free_spec hi hf) (by simpa using hr)
  (λj e=>by simpa using dL.1 hn j e) hy hS h
theorem Uo{i:Nat}(L:List Nat){oi:Oper}{v:Value}{fuel:Nat}{listed:Array Bool}{a:Act}{w:abP}(hi:ops[i]? =some oi)
  (hy:YieldsIf P ops S oi v a)(hS:S w)(h:pd P md ops Q S D fuel (listed.setIfInBounds i true) (a.put oi.dst v) w)
  (hs:Region.noSelect ops=true:=by kernel_rfl)(hf:Region.free md ops listed i=true:=by kernel_rfl)(hr:(Region.ready md ops listed).contains i=true:=by kernel_rfl)
  (hL:tH md ops i L=true:=by kernel_rfl)(hD:(D.all λd=>L.contains d)=true:=by kernel_rfl)(hn:Gh listed L=true:=by kernel_rfl)
  (hQ:∀c a w,Q (.panic c) (a.put oi.dst v) w->Q (.panic c) a w:=by exact λ_ _ _ h=>h):pd P md ops Q S D (fuel+1) listed a w:=
 aJ L hi hs hf hr hL hD hn hQ hy hS h
theorem Yi(i:Nat)(L:List Nat){oi:Oper}{v:Value}{fuel:Nat}{listed:Array Bool}{a:Act}{w:abP}(hi:ops[i]? =some oi)(hS:S w)(h:pd P md ops Q S D fuel (listed.setIfInBounds i true) (a.put oi.dst v) w)(hw:Region.wanted oi (yielded ops a.tmps)=true:=by rfl)(hv:∀w,S w->(execOp a.eval oi).run P w= .ok (.value v) w:=by intro w' g;(try dsimp only at g);go_simp;try with_reducible rfl)(hs:Region.noSelect ops=true:=by kernel_rfl)(hf:Region.free md ops listed i=true:=by kernel_rfl)(hr:(Region.ready md ops listed).contains i=true:=by kernel_rfl)(hL:tH md ops i L=true:=by kernel_rfl)(hD:(D.all λd=>L.contains d)=true:=by kernel_rfl)(hn:Gh listed L=true:=by kernel_rfl)(hQ:∀c a w,Q (.panic c) (a.put oi.dst v) w->Q (.panic c) a w:=by exact λ_ _ _ h=>h):pd P md ops Q S D (fuel+1) listed a w:=aJ L hi hs hf hr hL hD hn hQ (Or.inl ⟨hw,hv⟩) hS h
theorem Yj(i:Nat){oi:Oper}{v:Value}{fuel:Nat}{listed:Array Bool}{a:Act}{w:abP}(hi:ops[i]? =some oi)(h:wpAny P md ops Q fuel (listed.setIfInBounds i true) (a.put oi.dst v) w)(hw:Region.wanted oi (yielded ops a.tmps)=true:=by rfl)(hv:∀w,(execOp a.eval oi).run P w= .ok (.value v) w:=by intro w';go_simp;try with_reducible rfl)(hs:Region.noSelect ops=true:=by kernel_rfl)(hf:Region.free md ops listed i=true:=by kernel_rfl)(hr:(Region.ready md ops listed).contains i=true:=by kernel_rfl)(hQ:∀c a w,Q (.panic c) (a.put oi.dst v) w->Q (.panic c) a w:=by exact λ_ _ _ h=>h):wpAny P md ops Q (fuel+1) listed a w:=Qw hi hs hf hr hQ (Or.inl ⟨hw,hv⟩) h
def ep(P:Program)(md:Region.Mode)(ops:Array Oper)(Q:Exit->Act->abP->Prop)(S:abP->Prop)(D:List Nat)(fuel:Nat)(listed:Array Bool)(a:Act)(w:abP)(rs:List Nat):Prop:=
 ∀i∈rs,wpOp P ops Q i (λa' w'=>((∀d∈D,(listed.setIfInBounds i true).getD d true=false)->S w')/\pd P md ops Q S D fuel (listed.setIfInBounds i true) a' w') a w
theorem ep.nil{fuel:Nat}{listed:Array Bool}{a:Act}{w:abP}:ep P md ops Q S D fuel listed a w []:=λ_ h=>by cases h
theorem ep.cons{fuel:Nat}{listed:Array Bool}{a:Act}{w:abP}{i:Nat}{o:Oper}{rs:List Nat}(ho:ops[i]? =some o)
  (h:∀K':Act->abP->Prop,Shut (∀a w,((∀d∈D,(listed.setIfInBounds i true).getD d true=false)->S w)->pd P md ops Q S D fuel (listed.setIfInBounds i true) a w->K' a w)->if Region.wanted o (yielded ops a.tmps)=true then Oper.wp P o a w K' Q else K' (a.put o.dst undef) w)
  (hs:ep P md ops Q S D fuel listed a w rs):ep P md ops Q S D fuel listed a w (i :: rs):=λj b=>by
 rcases ie.1 b with rfl| b
 ·exact wpOp_step ho (λK' c=>h K' (λa w e f=>c a w ⟨e,f⟩))
 ·exact hs j b
theorem cq{rs:List Nat}{fuel:Nat}{listed:Array Bool}{a:Act}{w:abP}(hr:Region.ready md ops listed=rs)(hne:rs≠[])
  (h:ep P md ops Q S D fuel listed a w rs):pd P md ops Q S D (fuel+1) listed a w:=⟨λb=>absurd (hr▸b) hne,hr▸h⟩
theorem yF{listed:Array Bool}{i d:Nat}(h:listed.getD d true=true):(listed.setIfInBounds i true).getD d true=true:=by
 by_cases b:i=d
 ·subst b;rcases fj i listed.size with a| a
  ·simp[a]
  ·simp[Array.getElem?_eq_none a,Array.setIfInBounds_eq_of_size_le a]
 ·rw[getD_set_ne true b];exact h
theorem mc{d:Nat}(hd:d∈D):∀(fuel:Nat) (listed:Array Bool) (a:Act) (w:abP),listed.getD d true=true->wpAny P md ops Q fuel listed a w->pd P md ops Q S D fuel listed a w
 | 0,_,_,_,_,h=>h
 | fuel+1,_,_,_,hl,h=>⟨h.1,λi hi=>wpOp_mono (λa' w' h'=>⟨λhn=>absurd ((yF hl).symm.trans (hn d hd)) (by decide),mc hd fuel _ a' w' (yF hl) h'⟩) (h.2 i hi)⟩
theorem tK{fuel:Nat}{listed:Array Bool}{a:Act}{w:abP}{i:Nat}{o:Oper}{rs:List Nat}(ho:ops[i]? =some o)
  (h:∀K':Act->abP->Prop,Shut (∀a w,wpAny P md ops Q fuel (listed.setIfInBounds i true) a w->K' a w)->if Region.wanted o (yielded ops a.tmps)=true then Oper.wp P o a w K' Q else K' (a.put o.dst undef) w)
  (hs:AllReady P md ops Q fuel listed a w rs):AllReady P md ops Q fuel listed a w (i :: rs):=AllReady.cons ho h hs
theorem Up(i:Nat){fuel:Nat}{listed:Array Bool}{a:Act}{w:abP}{o:Oper}(ho:ops[i]? =some o)
  (h:∀K':Act->abP->Prop,Shut (∀a w,((∀d∈D,(listed.setIfInBounds i true).getD d true=false)->S w)->pd P md ops Q S D fuel (listed.setIfInBounds i true) a w->K' a w)->if Region.wanted o (yielded ops a.tmps)=true then Oper.wp P o a w K' Q else K' (a.put o.dst undef) w)
  (hr:Region.ready md ops listed=[i]:=by kernel_rfl):pd P md ops Q S D (fuel+1) listed a w:=cq hr (by simp) (ep.cons ho h ep.nil)
theorem Uq(i:Nat){fuel:Nat}{listed:Array Bool}{a:Act}{w:abP}{o:Oper}(ho:ops[i]? =some o)
  (h:∀K':Act->abP->Prop,Shut (∀a w,wpAny P md ops Q fuel (listed.setIfInBounds i true) a w->K' a w)->if Region.wanted o (yielded ops a.tmps)=true then Oper.wp P o a w K' Q else K' (a.put o.dst undef) w)
  (hr:Region.ready md ops listed=[i]:=by kernel_rfl):wpAny P md ops Q (fuel+1) listed a w:=Qt hr (by simp) (tK ho h Qr)
theorem je{id:Nat}{a:Act}{w:abP}(S:abP->Prop)(D:List Nat)(hm:P.follows .mixedOrders=true)
  (h:pd P .any ops Q S D ops.size (Array.replicate ops.size false) a w.drew):(Code.region id ops true).wp P Q a w:=
 wp_region_any hm (vO _ _ _ _ h)
end
end Go.Proofs.YtafoknnjekegkaaGreatDoor
namespace Go.Proofs.YtafoknnjekegkaaGreatDoor
open Go.RowKit Go.Proofs.Tryz
section
theorem oP:(prog.info? 49).map (λi=>(i.zero,i.size,i.bytes))=some (some (.agg #[.string ⟨#[]⟩,.int .i64 0,.bool false,.bool false,.int .i64 0]),5,40):=by kernel_rfl
theorem Mv{p:Pk}(h:Ie p=true):p.codes.length<=60/\p.filters.length<=60/\p.props.length<=1010/\p.will.props.length<=1010:=by
 unfold Ie Ig at h;simp only[eh,Fx]at h;omega
end
