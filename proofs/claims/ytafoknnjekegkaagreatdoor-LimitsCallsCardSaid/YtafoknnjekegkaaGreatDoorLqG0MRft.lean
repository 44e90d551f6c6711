/- Parts: MRft. -/
import Derived.Test.YtafoknnjekegkaaGreatDoorLqG0RfM
set_option maxRecDepth 10000
set_option maxHeartbeats 8000000
namespace Go.Proofs.YtafoknnjekegkaaGreatDoor
open Go.RowKit Go.Proofs.Tryz
variable {v k e:Int}{t:abO}{a:Nat}
def abU(v:Int)(p:Pk):Bool:=decide (pe v p.kind=true/\p=qS p/\¬(v=4/\(p.code≠0\/0<p.props.length))/\1<=p.id/\p.id<=65535/\may p.kind p.code=true)
theorem Ir{l:List Pr}(h:v=4->l.length=0):GI v k l=(aM k l).2:=by
 unfold GI;by_cases a:v=4
 ·have b:=h a;have c:l=[]:=aF b;subst c;rw[if_pos a,Fl (by simp),vL]
 ·rw[Fl a]
theorem OS(v:Int)(p:Pk):eS v p=if abU v p=true then GI v p.kind p.props else 2:=by
 by_cases h:abU v p=true
 ·obtain⟨g,i,d,m,n,j⟩:=aR (show decide _=true from h);have f:v=4->p.props.length=0:=λk=>by
   have:¬(0<p.props.length):=λx=>d ⟨k,.inr x⟩;omega
  rw[if_pos h,Ir f];unfold eS;rw[Fl,Fl,Fl]
  ·exact λx=>x i
  ·rintro ⟨x,y| y⟩
   ·exact d ⟨x,.inl y⟩
   ·exact y (f x)
  ·rintro (x| x| x| x)
   ·rw[g]at x;cases x
   ·omega
   ·omega
   ·rw[j]at x;cases x
 ·rw[Fl h];have l:¬(pe v p.kind=true/\p=qS p/\¬(v=4/\(p.code≠0\/0<p.props.length))/\1<=p.id/\p.id<=65535/\may p.kind p.code=true):=λx=>h (au x);unfold eS;by_cases a:pe v p.kind=false\/p.id<=0\/65536<=p.id\/may p.kind p.code=false
  ·rw[if_pos a]
  rw[Fl a];by_cases b:v=4/\(p.code≠0\/p.props.length≠0)
  ·rw[if_pos b]
  rw[Fl b];by_cases c:p=qS p
  ·exfalso;apply l;refine⟨?_,c,?_,?_,?_,?_⟩
   ·cases e:pe v p.kind
    ·exact absurd (.inl e) a
    ·rfl
   ·rintro ⟨x,y| y⟩
    ·exact b ⟨x,.inl y⟩
    ·exact b ⟨x,.inr (by omega)⟩
   ·have:¬p.id<=0:=λx=>a (.inr (.inl x));omega
   ·have:¬65536<=p.id:=λx=>a (.inr (.inr (.inl x)));omega
   ·cases e:may p.kind p.code
    ·exact absurd (.inr (.inr (.inr e))) a
    ·rfl
  ·rw[if_pos c]
def Ia(v k c:Int)(l:List Pr):abO:=if v=5 then⟨(oG k c l).toArray⟩else⟨#[]⟩
def rkP(v k:Int)(t:abO)(a:Nat):List Pr×Nat×Int:=if a+1<t.size then QK v k t (a+1) 0 else([],a+1,0)
def rkE(v k:Int)(t:abO)(a:Nat):Int:=if(rkP v k t a).2.2=0/\t.size<=(rkP v k t a).2.1/\Ia v k (br t a 0 1:Nat) (rkP v k t a).1≠t.extract a t.size then 5 else(rkP v k t a).2.2
def Qu(v k:Int)(t:abO)(a:Nat)(e:Int):Int×List Pr×Nat×Int:=
 if v=4\/e≠0\/t.size<=a then(0,[],a,e)else((br t a 0 1:Nat),(rkP v k t a).1,(rkP v k t a).2.1,rkE v k t a)
def QE(t:abO)(a:Nat)(e x:Int):Int:=if(if e=0/\a<t.size then 5 else e)=0 then x else(if e=0/\a<t.size then 5 else e)
def Qx(p:Pk)(t:abO)(a:Nat)(e x:Int):Pk×Int:=if QE t a e x≠0 then(pk0,QE t a e x)else(p,0)
def Rj(t:abO)(a:Nat)(e:Int):Int:=if e≠0 then e else if a<t.size then 5 else 0
theorem RZ(t:abO)(a:Nat)(e:Int):(if e=0/\a<t.size then 5 else e)=Rj t a e:=by
 unfold Rj;by_cases h:e=0
 ·subst h;by_cases b:a<t.size
  ·rw[if_pos ⟨rfl,b⟩,Fl (λx=>x rfl),if_pos b]
  ·rw[Fl (λx=>b x.2),Fl (λx=>x rfl),Fl b]
 ·rw[Fl (λy=>h y.1),if_pos h]
theorem Sx(ha:a<=t.size):(Qu 5 k t a 0).1=(dg k t a).1/\(Qu 5 k t a 0).2.1=(dg k t a).2.1/\
  ∀x,QE t (Qu 5 k t a 0).2.2.1 (Qu 5 k t a 0).2.2.2 x=QE t (dg k t a).2.2.1 (dg k t a).2.2.2 x:=by
 by_cases i:t.size<=a
 ·have f:Qu 5 k t a 0=(0,[],a,0):=by unfold Qu;rw[if_pos (.inr (.inr i))]
  have d:dg k t a=(0,[],a,0):=by unfold dg;rw[if_pos i]
  rw[f,d];exact⟨rfl,rfl,λ_=>rfl⟩
 have f:Qu 5 k t a 0=(((br t a 0 1:Nat):Int),(rkP 5 k t a).1,(rkP 5 k t a).2.1,rkE 5 k t a):=by
  unfold Qu;rw[Fl];rintro (x| x| x)
  ·exact absurd x (by decide)
  ·exact x rfl
  ·exact i x
 have u:ls (t.extract a t.size)=(ls t).drop a:=by
  have v:=Ym t a (t.size- a);rw[show a+(t.size- a)=t.size by omega]at v;rw[v,bt];rw[bU,aN];exact ac _
 have m:∀l,(ls t).drop a=oG k (br t a 0 1:Nat) l->¬(Ia 5 k (br t a 0 1:Nat) l≠t.extract a t.size):=λl h x=>x (by
  apply eX;unfold Ia;rw[if_pos rfl,jo,u,h])
 have b:=rM (k:=k) ha;by_cases r:t.size=a+1
 ·have g:rkP 5 k t a=([],a+1,0):=by unfold rkP;rw[Fl (by omega)]
  have d:dg k t a=(((br t a 0 1:Nat):Int),[],a+1,if br t a 0 1=0 then 5 else 0):=by unfold dg;rw[Fl i,if_pos r]
  have w:rkE 5 k t a=if br t a 0 1=0 then 5 else 0:=by
   unfold rkE;rw[g];simp only;by_cases j:br t a 0 1=0
   ·rw[if_pos j,if_pos];refine⟨trivial,by omega,λx=>?_⟩;have q:=congrArg ByteArray.size x;rw[aj,Ia,if_pos rfl,GW,j]at q;have:(oG k ((0:Nat):Int) []).length=0:=by unfold oG;rw[if_pos ⟨rfl,rfl⟩];rfl
    omega
   ·rw[Fl j,Fl];rintro ⟨-,-,x⟩;rw[d,Fl j]at b;exact m _ (b rfl (by show t.size<=a+1;omega)).1 x
  rw[f,d,g,w];exact⟨rfl,rfl,λ_=>rfl⟩
 have g:rkP 5 k t a=((aZ k (t.extract (a+1) t.size)).1,a+1+(aZ k (t.extract (a+1) t.size)).2.1,(aZ k (t.extract (a+1) t.size)).2.2):=by
  unfold rkP QK;rw[if_pos (by omega),Fl];rintro (x| x)
  ·exact absurd x (by decide)
  ·exact x rfl
 have d:dg k t a=(((br t a 0 1:Nat):Int),(aZ k (t.extract (a+1) t.size)).1,a+1+(aZ k (t.extract (a+1) t.size)).2.1,if(aZ k (t.extract (a+1) t.size)).2.2≠0 then(aZ k (t.extract (a+1) t.size)).2.2 else if(aZ k (t.extract (a+1) t.size)).1.length=0 then 5 else 0):=by unfold dg;rw[Fl i,Fl r]
 refine⟨by rw[f,d],by rw[f,d,g],λx=>?_⟩;rw[f,g];unfold rkE;rw[g];simp only;rw[d]at b⊢;simp only at b⊢;generalize aZ k (t.extract (a+1) t.size)=R at*;obtain⟨l,n,e⟩:=R;simp only at b⊢;by_cases o:e=0;rotate_left
 ·rw[Fl (λy=>o y.1),if_pos o]
 subst o;rw[Fl (λy=>y rfl)]at b;rw[Fl (show ¬((0:Int)≠0)from λy=>y rfl)];by_cases p:l.length=0
 ·rw[if_pos p];have s:l=[]:=aF p;subst s;by_cases c:t.size<=a+1+n
  ·rw[if_pos];refine⟨rfl,c,λy=>?_⟩;have q:=congrArg ByteArray.size y;rw[aj,Ia,if_pos rfl,GW]at q;have:(oG k ((br t a 0 1:Nat):Int) []).length<=1:=by
    unfold oG;split
    ·exact ag _
    ·show(Yk _ 1++[]).length<=1;rw[YO,fM];exact ac _
   omega
  ·rw[Fl (λy=>c y.2.1)];unfold QE;rw[RZ,RZ];unfold Rj;rw[Fl (show ¬((0:Int)≠0)from λy=>y rfl),if_pos (show a+1+n<t.size by omega),if_pos (show(5:Int)≠0 by decide)]
 ·rw[Fl p]at b⊢;rw[Fl];rintro ⟨-,c,y⟩;exact m _ (b rfl c).1 y
theorem Rb{p:Pk}{x:Int}:Qx p t a e x=if Rj t a e≠0 then(pk0,Rj t a e)else if x≠0 then(pk0,x)else(p,0):=by
 unfold Qx QE;rw[RZ];by_cases h:Rj t a e=0
 ·rw[if_pos h,Fl (show ¬(Rj t a e≠0)from λy=>y h)]
 ·rw[Fl h,if_pos h,if_pos h]
def rkR(v k:Int)(s:abO):Int×List Pr×Nat×Int:=Qu v k s (aH s 0 0 2).2.1 (aH s 0 0 2).2.2
def rkQ(v k:Int)(s:abO):Pk:=aP k (br s 0 0 2:Nat) (rkR v k s).1 (rkR v k s).2.1
theorem Ty{s:abO}(hk:pe v k=true):iW v k s=Qx (rkQ v k s) s (rkR v k s).2.2.1 (rkR v k s).2.2.2 (eS v (rkQ v k s)):=by
 unfold iW;rw[Fl (λx=>by rw[hk]at x;cases x)];by_cases d:s.size<2
 ·have a:aH s 0 0 (2:Nat)=(⟨#[]⟩,0,3):=kH (by omega);rw[show((2:Nat):Int)=2 from rfl]at a;have b:rkR v k s=(0,[],0,3):=by
   unfold rkR Qu;rw[a];exact if_pos (.inr (.inl (by decide)))
  rw[if_pos d,Rb,b];rfl
 rw[Fl d];have a:aH s 0 0 (2:Nat)=(s.extract 0 (0+2),0+2,0):=dZ (by omega);rw[show((2:Nat):Int)=2 from rfl]at a;have b:rkR v k s=Qu v k s 2 0:=by unfold rkR;rw[a]
 have i:=AI hk;have c:(Qu v k s 2 0).1=(abW v k s).1/\(Qu v k s 2 0).2.1=(abW v k s).2.1/\∀x,QE s (Qu v k s 2 0).2.2.1 (Qu v k s 2 0).2.2.2 x=QE s (abW v k s).2.2.1 (abW v k s).2.2.2 x:=by
  unfold abW;by_cases e:v=5
  ·subst e;rw[if_pos rfl];exact Sx (by omega)
  ·have h:Qu v k s 2 0=(0,[],2,0):=by unfold Qu;exact if_pos (.inl (by omega))
   rw[Fl e,h];exact⟨rfl,rfl,λ_=>rfl⟩
 have g:rkQ v k s=gq v k s:=by unfold rkQ gq;rw[b,c.1,c.2.1]
 have f:Qx (rkQ v k s) s (rkR v k s).2.2.1 (rkR v k s).2.2.2 (eS v (rkQ v k s))=Qx (rkQ v k s) s (abW v k s).2.2.1 (abW v k s).2.2.2 (eS v (rkQ v k s)):=by
  unfold Qx;rw[b,c.2.2]
 rw[f,Rb,g];rfl
theorem Sv(ht:t.size<=140737488351232):(∀p∈(rkP v k t a).1,qc p)/\(rkP v k t a).1.length<=1000:=by
 unfold rkP;split
 ·unfold QK;split
  ·exact⟨λq b=>(nomatch b),ag _⟩
  ·show(∀q∈(aZ k (t.extract (a+1) t.size)).1,qc q)/\(aZ k (t.extract (a+1) t.size)).1.length<=1000;have c:(t.extract (a+1) t.size).size<=140737488351232:=by rw[aj];omega
   generalize t.extract (a+1) t.size=Z at*;refine⟨iT (kind:=k) (s:=Z) c,?_⟩;by_cases h:(aZ k Z).2.2=0
   ·exact kj h
   ·rw[fZ h];exact ag _
 ·exact⟨λq b=>(nomatch b),ag _⟩
theorem Rc(ht:t.size<=140737488351232):(∀p∈(Qu v k t a e).2.1,qc p)/\(Qu v k t a e).2.1.length<=1000:=by
 unfold Qu;split
 ·exact⟨λq b=>(nomatch b),ag _⟩
 ·exact Sv ht
theorem Tg{i:Int}(ht:t.size<=140737488351232):PkOk (aP k i (Qu v k t a e).1 (Qu v k t a e).2.1):=
 iw (Rc ht).1 (aC (Rc ht).2 (by decide))
theorem MZ(v k:Int)(l:List Pr):(Hq v k l).size<=131075004:=by
 unfold Hq;split
 ·exact ag _
 ·rw[GW];by_cases h:(aM k l).2=0
  ·exact(G6 k l h).2
  ·rw[Ix k l h];exact ag _
theorem Mf(v k c:Int)(l:List Pr):(Ia v k c l).size<=131075005:=by
 unfold Ia;split
 ·rw[GW];unfold oG;split
  ·exact ag _
  ·rw[List.length_append,fM];split
   ·exact aC (ac 1) (by decide)
   ·by_cases h:(aM k l).2=0
    ·have:=(G6 k l h).2;omega
    ·rw[Ix k l h];exact aC (ac 1) (by decide)
 ·exact ag _
section
attribute [local go_sem] bc aD bh bg bK bJ bd ax cI dC dB dt dj di dA dr dp dn bW co YK bZ YM cz cy cw cu YL YP YB bS bP bR
theorem Mh(p:Pk)(h:Hs)(w:abP):(qP #[(0,.int .i64 p.kind),(4,.int .i64 p.id),(17,.int .i64 p.code),(20,.slice h.props.a p.props.length h.props.c)]).run prog w= .ok (pkV (qS p) (vU h)) w:=by kernel_rfl
theorem JS(v:Int)(p:Pk)(h:Hs)(w:abP)(ip:PkIn w w.heap.size p h)(ok:PkOk p):
  abR 193 #[.int .i64 v,pkV p h] w (.bool (abU v p)):=by
 have N:=aa ok;have g:=aa ((St.start w).push ip);clear ip ok;go_enter func193,ntmps193;have F:=g.o.cell 0 rfl 0;rw[cI]at F;go_wp2_with fail;refine(pS v _).mono ?_;rintro e w1 ⟨rfl,rfl⟩;cases s:YG v
 ·have b:Hid (abU v p=false):=aa (ah (λx=>by have J:=aR (show decide _=true from x.1);have Y:=Gy (show decide (v=4\/v=5)=false from s);exact Y J.1));clear s;go_wp2;go_ret;exact⟨by rw[b.o];rfl,g.o.kept⟩
 by_cases K:p.kind<4
 ·have b:Hid (abU v p=false):=aa (ah (λx=>by have J:=aR (show decide _=true from x.1);omega));clear s;go_wp2;go_ret;exact⟨by rw[b.o];rfl,g.o.kept⟩
 have d4:decide (p.kind<(4:Int))=false:=ah K;by_cases Q:7<p.kind
 ·have b:Hid (abU v p=false):=aa (ah (λx=>by have J:=aR (show decide _=true from x.1);omega));clear s K;go_wp2;go_ret;exact⟨by rw[b.o];rfl,g.o.kept⟩
 have d7:decide ((7:Int)<p.kind)=false:=ah Q;have M:Hid (pe v p.kind=true):=aa (au ⟨aR (show decide (v=4\/v=5)=true from s),by omega,by omega⟩);clear s K Q;have G:=g.o.cell 0 rfl 4;have o:=g.o.cell 0 rfl 21;have q:=g.o.cell 0 rfl 24;rw[dj]at G;rw[YB]at o;rw[bR]at q;have C:=λW=>Mh p h W;generalize Z:w.alloc (.cells (pkC p h) PkT)=W at*;have i:Hid (St w [(w.heap.size,p,h),(W.heap.size,qS p,vU h)] (W.alloc (.cells (pkC (qS p) (vU h)) PkT))):=aa (g.o.push (Fh (g.o.into 0 rfl)));have I:Hid (Calls prog 190 #[pkV p h,pkV (qS p) (vU h)] (W.alloc (.cells (pkC (qS p) (vU h)) PkT)) λe w'=>e= .returned (.bool (decide (p=qS p)))/\Below (W.alloc (.cells (pkC (qS p) (vU h)) PkT)).heap.size (W.alloc (.cells (pkC (qS p) (vU h)) PkT)) w'):=
  aa (GP p (qS p) h (vU h) _ (i.o.into 0 rfl) (i.o.into 1 rfl) N.o.len (Dy N.o.len))
 clear Z;have D:=i.o.ld 0 rfl;have E:=i.o.ld 1 rfl;have m:=i.o.cell 0 rfl 21;have n:=i.o.cell 0 rfl 24;rw[YB]at m;rw[bR]at n;by_cases j:v=4
 focus
  have V:(v==4)=true:=aK.2 j;by_cases l:p.code=0
  focus
   have X:(p.code !=0)=false:=by simpa using l
   by_cases t:0<p.props.length
   ·have U:decide ((0:Int)<(p.props.length:Int))=true:=au (by omega);have P:decide (0<p.props.length)=true:=au t;have r:Hid (v=4/\(p.code≠0\/0<p.props.length)):=aa ⟨j,.inr t⟩;clear j l t;go_wp2_with fail;refine I.o.mono ?_;rintro e S ⟨rfl,d⟩;have c:=aa (i.o.below d);clear d D E F G o q m n C
    have z:=c.o.cell 0 rfl 0;have A:=c.o.cell 0 rfl 4;have f:=c.o.cell 0 rfl 21;rw[cI]at z;rw[dj]at A;rw[YB]at f;by_cases a:p=qS p;rotate_left
    ·have b:Hid (abU v p=false):=aa (ah (λx=>a x.2.1));rw[ah a];clear a;go_wp2;go_ret;exact⟨by rw[b.o];rfl,c.o.kept⟩
    rw[au a];have B:=aa a;clear a;have b:Hid (abU v p=false):=aa (ah (λx=>x.2.2.1 r.o));go_wp2;go_ret;exact⟨by rw[b.o];rfl,c.o.kept⟩
   focus
    have U:decide ((0:Int)<(p.props.length:Int))=false:=ah (by omega);have P:decide (0<p.props.length)=false:=ah t;have r:Hid (¬(v=4/\(p.code≠0\/0<p.props.length))):=aa (λx=>x.2.elim (λy=>y l) t);clear j l t
   rotate_left
  rotate_left
  ·have X:(p.code !=0)=true:=aA.2 l;have r:Hid (v=4/\(p.code≠0\/0<p.props.length)):=aa ⟨j,.inl l⟩;clear j l;go_wp2_with fail;refine I.o.mono ?_;rintro e S ⟨rfl,d⟩;have c:=aa (i.o.below d);clear d D E F G o q m n C
   have z:=c.o.cell 0 rfl 0;have A:=c.o.cell 0 rfl 4;have f:=c.o.cell 0 rfl 21;rw[cI]at z;rw[dj]at A;rw[YB]at f;by_cases a:p=qS p;rotate_left
   ·have b:Hid (abU v p=false):=aa (ah (λx=>a x.2.1));rw[ah a];clear a;go_wp2;go_ret;exact⟨by rw[b.o];rfl,c.o.kept⟩
   rw[au a];have B:=aa a;clear a;have b:Hid (abU v p=false):=aa (ah (λx=>x.2.2.1 r.o));go_wp2;go_ret;exact⟨by rw[b.o];rfl,c.o.kept⟩
 rotate_left
 focus
  have V:(v==4)=false:=ar.2 j;have r:Hid (¬(v=4/\(p.code≠0\/0<p.props.length))):=aa (λx=>j x.1);clear j
 rotate_left
 all_goals
  go_wp2_with fail;refine I.o.mono ?_;rintro e S ⟨rfl,d⟩;have c:=aa (i.o.below d);clear d D E F G o q m n C
  have z:=c.o.cell 0 rfl 0;have A:=c.o.cell 0 rfl 4;have f:=c.o.cell 0 rfl 21;rw[cI]at z;rw[dj]at A;rw[YB]at f;by_cases a:p=qS p;rotate_left
  ·have b:Hid (abU v p=false):=aa (ah (λx=>a x.2.1));rw[ah a];clear a;go_wp2;go_ret;exact⟨by rw[b.o];rfl,c.o.kept⟩
  rw[au a];have B:=aa a;clear a;by_cases k:1<=p.id;rotate_left
  ·have b:Hid (abU v p=false):=aa (ah (λx=>k x.2.2.2.1));have H:decide ((1:Int)<=p.id)=false:=ah k;clear k;go_wp2;go_ret;exact⟨by rw[b.o];rfl,c.o.kept⟩
  by_cases u:p.id<=65535;rotate_left
  ·have b:Hid (abU v p=false):=aa (ah (λx=>u x.2.2.2.2.1));have H:decide ((1:Int)<=p.id)=true:=au k;have O:decide (p.id<=(65535:Int))=false:=ah u;clear k u;go_wp2;go_ret;exact⟨by rw[b.o];rfl,c.o.kept⟩
  have H:decide ((1:Int)<=p.id)=true:=au k;have O:decide (p.id<=(65535:Int))=true:=au u;have L:=aa (And.intro k u);clear k u;go_wp2_with fail;refine Yg (Ht p.kind p.code _) λw4 d=>?_;have T:=aa (c.o.below d);clear d z A f
  have b:Hid (abU v p=may p.kind p.code):=aa (by
   cases R:may p.kind p.code
   ·exact ah (λx=>by have:=x.2.2.2.2.2;rw[R]at this;cases this)
   ·exact au ⟨M.o,B.o,r.o,L.o.1,L.o.2,R⟩)
  go_wp2;go_ret;exact⟨by rw[b.o];rfl,T.o.kept⟩
theorem IZ(v:Int)(p:Pk)(h:Hs)(w:abP)(ip:PkIn w w.heap.size p h)(ok:PkOk p):
  abR 122 #[.int .i64 v,pkV p h] w (.int .i64 (eS v p)):=by
 have j:=aa ok;have k:=aa ((St.start w).push ip);have l:=aa (OS v p);clear ip ok;go_enter func122,ntmps122;have o:=k.o.ld 0 rfl;go_wp2_with fail;refine Yg (JS v p h _ (k.o.into 0 rfl) j.o) λq d=>?_;have b:=aa (k.o.below d);clear d o
 cases f:abU v p
 ·have i:Hid (eS v p=2):=aa (by rw[l.o,Fl (λx=>by rw[f]at x;cases x)]);clear f;go_wp2;go_ret;exact⟨by rw[i.o];rfl,b.o.kept⟩
 have i:Hid (eS v p=GI v p.kind p.props):=aa (by rw[l.o,if_pos f]);clear f;have m:=b.o.cell 0 rfl 0;have g:=b.o.cell 0 rfl 24;rw[cI]at m;rw[bR]at g;go_wp2_with fail;refine Yg (Gx v p.kind p.props _ rfl j.o.props h.props.a h.props.c _ (b.o.into 0 rfl).props j.o.len.2.2.2 (b.o.into 0 rfl).caps.2.2.2) λr d=>?_;have n:=aa (b.o.below d);clear d m g
 go_wp2;go_ret;exact⟨by rw[i.o];rfl,n.o.kept⟩
theorem JD(v k c:Int)(l:List Pr)(n:Nat)(hn:l.length=n)(hc:0<=c/\c<256)(hg:∀p∈l,qc p)(A:Option Addr)(q:Nat)(w:abP)(h:Rd w w.heap.size 4 A n (prs l))(hl:n<=4611686018427387904)(hq:n<=q):
  abR 192 #[.int .i64 v,.int .i64 k,.int .i64 c,.slice A n q] w (.string (Ia v k c l)):=by
 have H:=aa h;have G:=aa hg;have j:=aa hn;have I:=aa hl;have J:=aa hq
 clear h hg hn hl hq;by_cases s:v=5;rotate_left
 ·have L:(v==5)=false:=ar.2 s;have m:Hid (Ia v k c l=⟨#[]⟩):=aa (Fl s);clear s;go_enter func192,ntmps192;go_wp2;go_ret;exact⟨by rw[m.o];rfl,aq _ _⟩
 have L:(v==5)=true:=aK.2 s;have m:Hid (Ia v k c l=⟨(oG k c l).toArray⟩):=aa (if_pos s);have K:Hid (Hq v k l=⟨(aM k l).1.toArray⟩):=aa (Fl (by omega));have t:Hid (oG k c l=if c=0/\l.length=0 then []else Yk c.toNat 1++(if l.length=0 then []else(aM k l).1)):=aa rfl;have a:c=((UInt8.ofNat c.toNat).toNat:Int):=by rw[UInt8.toNat_ofNat'];omega
 have z:Hid (Yk c.toNat 1=[UInt8.ofNat c.toNat]):=aa (by
  show [UInt8.ofNat (c.toNat/ 2^ 0)]=_;rw[Nat.pow_zero,Nat.div_one])
 have N:=Lg (P:=prog) 139 9 5 underlying139 underlying5 underlying9;have u:IntKind.u8.wrap c=c:=by rw[GM];omega
 clear s;obtain⟨Y,E⟩:∃Y,Ia v k c l=Y:=⟨_,rfl⟩;rw[E]at m⊢;clear E;by_cases d:c=0/\n=0
 ·have o:Hid (Y=⟨#[]⟩):=aa (by rw[m.o,t.o,if_pos ⟨d.1,by rw[j.o];exact d.2⟩]);have r:(c !=0)=false:=by simpa using d.1
  have C:decide ((0:Int)<(n:Int))=false:=ah (by omega);have y:decide (0<n)=false:=ah (by omega);clear d a hc u;go_enter func192,ntmps192;go_wp2;go_ret;exact⟨by rw[o.o];rfl,aq _ _⟩
 obtain⟨b,g⟩:∃b,UInt8.ofNat c.toNat=b:=⟨_,rfl⟩;rw[g]at a z;have M:=aa d;by_cases f:n=0
 ·have o:Hid (Y=⟨#[b]⟩):=aa (by rw[m.o,t.o,Fl (by rw[j.o];exact d),if_pos (by rw[j.o];exact f),z.o];rfl);have r:(c !=0)=true:=aA.2 (λx=>d ⟨x,f⟩);have C:decide ((0:Int)<(n:Int))=false:=ah (by omega);have y:decide (0<n)=false:=ah (by omega);rw[a]at r u⊢;clear d f a hc g;go_enter func192,ntmps192;go_wp2;go_ret;exact⟨by rw[o.o];rfl,(aq _ _).alloc (ac _) _⟩
 have o:Hid (Y=(⟨#[b]⟩:abO)++Hq v k l):=aa (by
  rw[m.o,t.o,Fl (by rw[j.o];exact d),Fl (by rw[j.o];exact f),z.o,K.o];apply eX;rw[jo,fe,jo,jo])
 have B:=aa (MZ v k l);have C:decide ((0:Int)<(n:Int))=true:=au (by omega);have y:decide (0<n)=true:=au (by omega);by_cases i:c=0
 focus
  have r:(c !=0)=false:=by simpa using i
  rw[a]at r u⊢;clear d f a hc g i;go_enter func192,ntmps192
 rotate_left
 focus
  have r:(c !=0)=true:=aA.2 i;rw[a]at r u⊢;clear d f a hc g i;go_enter func192,ntmps192
 rotate_left
 all_goals
  go_wp2_with fail;refine Yg (G5 v k l n j.o G.o A q _ ((H.o.alloc (ac _) _).wider (by simp)) I.o J.o) λQ g=>?_;have F:=aa (((aq w.heap.size w).alloc (ac _) (.cells #[.int .u8 (b.toNat:Int)] 5)).trans (g.mono (by simp)));clear g
  obtain⟨T,D⟩:∃T,Hq v k l=T:=⟨_,rfl⟩;rw[D]at o B⊢;have O:¬(9223372036854775807<1+T.size):=by have:=B.o;omega
  clear D;go_wp2;go_ret;exact⟨by rw[o.o];rfl,F.o⟩
end
section
theorem NQ{p:Pk}(g:AckGood v p):Ia v p.kind p.code p.props=⟨(Fa p).toArray⟩:=by
 unfold Ia;by_cases a:v=5
 ·rw[if_pos a];rfl
 ·obtain⟨b,c⟩:=g.old ((AI g.k).resolve_right a);rw[Fl a,Fa,if_pos ⟨b,by rw[c];rfl⟩]
theorem Yt(v:Int)(p:Pk)(h:Hs)(w:abP)(ip:PkIn w w.heap.size p h)(ok:PkOk p):
  abR 131 #[.int .i64 v,pkV p h] w (.tuple #[.string ⟨(Ga v p).1.toArray⟩,.int .i64 (Ga v p).2]):=by
 have r:=aa ok;have s:=aa ((St.start w).push ip);have y:Hid (Ga v p=if eS v p=0 then(Yk p.id.toNat 2++Fa p,0)else([],eS v p)):=aa rfl;clear ip ok;go_enter func131,ntmps131;have M:=s.o.ld 0 rfl;go_wp2_with fail;refine Yg (IZ v p h _ (s.o.into 0 rfl) r.o) λg D=>?_;have b:=aa (s.o.below D);clear D M
 by_cases f:eS v p=0;rotate_left
 ·have S:(eS v p !=0)=true:=aA.2 f;have q:Hid (Ga v p=([],eS v p)):=aa (by rw[y.o,Fl f]);clear f;go_wp2;go_ret2;exact⟨by rw[q.o];rfl,b.o.kept⟩
 have q:Hid (Ga v p=(Yk p.id.toNat 2++Fa p,0)):=aa (by rw[y.o,if_pos f]);have G:=aa (AJ f);rw[f];clear f;obtain⟨m,E,R⟩:∃m:Nat,Hid (p.id.toNat=m)/\IntKind.u64.wrap p.id=(m:Int):=⟨_,aa rfl,by rw[iZ];have:=G.o.id1;have:=G.o.id2;omega⟩;have K:Hid (m<65536):=aa (by have:=E.out;have:=G.o.id2;omega);obtain⟨X,i⟩:∃X:abO,(⟨(Yk m 2).toArray⟩:abO)=X:=⟨_,rfl⟩;have B:X.size=2:=by rw[<-i,GW,fM]
 obtain⟨Z,j⟩:∃Z:abO,Ia v p.kind p.code p.props=Z:=⟨_,rfl⟩;have C:Z.size<=131075005:=by rw[<-j];exact Mf _ _ _ _
 have z:Hid (((⟨(Ga v p).1.toArray⟩:abO),(Ga v p).2)=(X++Z,0)):=aa (by
  rw[q.o,E.out,<-i,<-j,NQ G.o];simp only;rw[ap2])
 have k:=jw (W:=g) (λx H=>GV m 2 x (by have:=K.o;omega) (by omega) (by omega));rw[show((2:Nat):Int)=2 from rfl]at k;rw[i]at k;have u:=jw (W:=g) (λx H=>JD v p.kind p.code p.props _ rfl ⟨G.o.c1,G.o.c2⟩ r.o.props h.props.a h.props.c x ((b.o.below H).into 0 rfl).props r.o.len.2.2.2 (b.o.into 0 rfl).caps.2.2.2);rw[j]at u;have N:=cell_regrown (show g.cell? ⟨w.heap.size,0,none⟩=some (.int .i64 p.kind)from b.o.cell 0 rfl 0);have O:=cell_regrown (show g.cell? ⟨w.heap.size,4,none⟩=some (.int .i64 p.id)from b.o.cell 0 rfl 4);have I:=cell_regrown (show g.cell? ⟨w.heap.size,21,none⟩=some (.int .i64 p.code)from b.o.cell 0 rfl 21);have J:=cell_regrown (show g.cell? ⟨w.heap.size,24,none⟩=some (.slice h.props.a p.props.length h.props.c)from b.o.cell 0 rfl 24);have Q:¬(9223372036854775807<X.size+Z.size):=by omega
 have l:=aa (λd P=>b.o.kept.trans ((below_regrown g d P).mono b.o.kept.size));clear i j B C;go_wp2_with fail;refine wp_region_quiet_below (by kernel_rfl) (by kernel_rfl) ?_
 repeat (go_big_quiet_step (first| with_reducible exact k _ _| with_reducible exact u _ _))
 refine kE ?_;intro _ F;obtain⟨⟨A,osq⟩,t⟩:=F;subst t;have L:=aa (l.o A osq);clear k u N O I J l;generalize Sort.grow (redrawn _ A) osq=wq at*;go_wp2;go_ret2;refine⟨?_,L.o⟩;have n:=congrArg Prod.fst z.o;have o:=congrArg Prod.snd z.o;simp only at n o;rw[n,o];rfl
def TL(g:Nat)(r:Pk×Int)(w:abP)(e:Ending)(w':abP):Prop:=∃k,e= .returned (.tuple #[pkV r.1 k,.int .i64 r.2])/\PkIn w' w'.heap.size r.1 k/\w.grownBy w' (some g)
structure DS (w:abP) (g:Nat) (p:Pk) (h:Hs) (t:abO) (a:Nat) (e:Int) (x:abP):Prop where
 mods:Mods (λz=>z=g) w x
 pk:Bk x w.heap.size PkT (pkC p h)
 res:Bk x (w.heap.size+1) PkT (pkC pk0 hs0)
 cur:IC x g t a e
 lt:g<w.heap.size
section
variable {w x y:abP} {g a:Nat} {p:Pk} {h:Hs} {t:abO} {e:Int}
theorem DS.below(d:DS w g p h t a e x)(hb:abQ x y):DS w g p h t a e y:=
 ⟨d.mods.trans (qk hb),Yh d.pk hb,Yh d.res hb,d.cur.below hb,d.lt⟩
theorem DS.turn(d:DS w g p h t a e x){e':Int}(hc:IC y g t a e')(hm:x.grownBy y (some g)):DS w g p h t a e' y:=
 ⟨d.mods.trans (qb hm rfl),d.pk.mods (S:=λz=>z=g) (qb hm rfl) (by have:=d.lt;omega),d.res.mods (S:=λz=>z=g) (qb hm rfl) (by have:=d.lt;omega),hc,d.lt⟩
theorem Mods.grown{w x:abP}{g:Nat}(h:Mods (λz=>z=g) w x):w.grownBy x (some g):=⟨h.os,h.tape,h.output,h.size,λi a b=>h.block i a (λe=>b (by rw[e]))⟩
theorem DS.put(d:DS w g p h t a e x)(q:Pk)(k:Hs):Mods (λz=>z=g) w (dE x (w.heap.size+1) q k):=by
 have c:Mods (λz=>z=g\/z=w.heap.size+1) w (dE x (w.heap.size+1) q k):=(d.mods.mono (λ_ _ b=>.inl b)).trans (qb (cJ x (w.heap.size+1) q k) (.inr rfl));exact c.mono (λi f b=>b.elim id (λe=>by omega))
end
theorem QF(g a:Nat)(t:abO)(e x:Int)(p:Pk)(h:Hs)(w:abP)(hc:IC w g t a e)(hi:∀y,Mods (λz=>z=g) w y->PkIn y y.heap.size p h):
  Calls prog 115 #[.pointer (some ⟨g,0,none⟩),pkV p h,.int .i64 x] w (TL g (Qx p t a e x) w):=by
 have G:=aa hi;have s:Hid (DS w g p h t a e ((w.alloc (.cells (pkC p h) PkT)).alloc (.cells (pkC pk0 hs0) PkT))):=aa
  ⟨(Mods.refl w).alloc _ |>.alloc _,(Bk.fresh w PkT (pkC p h)).alloc _,by
    have:=Bk.fresh (w.alloc (.cells (pkC p h) PkT)) PkT (pkC pk0 hs0);rwa[show(w.alloc (.cells (pkC p h) PkT)).heap.size=w.heap.size+1 by simp]at this,⟨(hc.1.alloc _).alloc _,hc.2⟩,hc.lt⟩
 have q:Hid (Qx p t a e x=if QE t a e x≠0 then(pk0,QE t a e x)else(p,0)):=aa rfl;have o:Hid (QE t a e x=if(if e=0/\a<t.size then 5 else e)=0 then x else(if e=0/\a<t.size then 5 else e)):=aa rfl;clear hc hi;obtain⟨⟨f,i,j⟩,-⟩:=s.o.cur.cells;go_enter func115,ntmps115;by_cases E:e=0;rotate_left
 focus
  have P:(e==0)=false:=ar.2 E;have k:Hid (QE t a e x=if e=0 then x else e):=aa (by rw[o.o,Fl (show ¬(e=0/\a<t.size)from λy=>E y.1)]);clear E;clear f i j;obtain⟨⟨f,i,j⟩,-⟩:=s.o.cur.cells;go_wp2_with fail;refine(Qv g a t _ x _ s.o.cur).mono ?_;rintro B u ⟨rfl,c,m⟩;have b:=aa (s.o.turn c m);clear c m f i j
  rw[<-k.o]at b;obtain⟨d,l⟩:∃d,QE t a e x=d:=⟨_,rfl⟩;rw[l]at b q;clear k o l;obtain⟨⟨f,i,j⟩,-⟩:=b.o.cur.cells;have D:=aW b.o.res;by_cases n:d=0
  ·subst n;have r:Hid (Qx p t a e x=(p,0)):=aa (by rw[q.o,Fl (λy=>y rfl)]);have J:=cf b.o.pk;go_wp2;refine abZ (aI rfl _ rfl (cO b.o.res _ _)) rfl ?_;rw[r.o];exact⟨h,rfl,G.o _ (b.o.put _ _),(b.o.put _ _).grown⟩
  focus
   have r:Hid (Qx p t a e x=(pk0,d)):=aa (by rw[q.o,if_pos n])
  rotate_left
 rotate_left;subst E;by_cases A:a<t.size
 focus
  have K:0<t.size- a:=by omega
  have k:Hid (QE t a 0 x=if(5:Int)=0 then x else 5):=aa (by rw[o.o,if_pos (show(0:Int)=0/\a<t.size from⟨rfl,A⟩)]);clear A;go_wp2_with fail;refine Yg (Qy g a t 0 _ s.o.cur) λM C=>?_;have F:=aa (s.o.below C);clear C f i j
  obtain⟨⟨f,i,j⟩,-⟩:=F.o.cur.cells;go_wp2_with fail;refine(Qv g a t 0 5 _ F.o.cur).mono ?_;rintro B R ⟨rfl,c,m⟩;rw[if_pos rfl]at c;have v:=aa (F.o.turn c m);clear c m
  clear f i j;obtain⟨⟨f,i,j⟩,-⟩:=v.o.cur.cells;go_wp2_with fail;refine(Qv g a t _ x _ v.o.cur).mono ?_;rintro B u ⟨rfl,c,m⟩;have b:=aa (v.o.turn c m);clear c m f i j
  rw[<-k.o]at b;obtain⟨d,l⟩:∃d,QE t a 0 x=d:=⟨_,rfl⟩;rw[l]at b q;clear k o l;obtain⟨⟨f,i,j⟩,-⟩:=b.o.cur.cells;have D:=aW b.o.res;by_cases n:d=0
  ·subst n;have r:Hid (Qx p t a 0 x=(p,0)):=aa (by rw[q.o,Fl (λy=>y rfl)]);have J:=cf b.o.pk;go_wp2;refine abZ (aI rfl _ rfl (cO b.o.res _ _)) rfl ?_;rw[r.o];exact⟨h,rfl,G.o _ (b.o.put _ _),(b.o.put _ _).grown⟩
  focus
   have r:Hid (Qx p t a 0 x=(pk0,d)):=aa (by rw[q.o,if_pos n])
  rotate_left
 rotate_left
 focus
  have K:¬0<t.size- a:=by omega
  have k:Hid (QE t a 0 x=x):=aa (by rw[o.o,Fl (show ¬((0:Int)=0/\a<t.size)from λy=>A y.2),if_pos rfl]);clear A;go_wp2_with fail;refine Yg (Qy g a t 0 _ s.o.cur) λM C=>?_;have v:=aa (s.o.below C);clear C
  clear f i j;obtain⟨⟨f,i,j⟩,-⟩:=v.o.cur.cells;go_wp2_with fail;refine(Qv g a t _ x _ v.o.cur).mono ?_;rintro B u ⟨rfl,c,m⟩;rw[if_pos rfl]at c;have b:=aa (v.o.turn c m);clear c m f i j
  rw[<-k.o]at b;obtain⟨d,l⟩:∃d,QE t a 0 x=d:=⟨_,rfl⟩;rw[l]at b q;clear k o l;obtain⟨⟨f,i,j⟩,-⟩:=b.o.cur.cells;have D:=aW b.o.res;by_cases n:d=0
  ·subst n;have r:Hid (Qx p t a 0 x=(p,0)):=aa (by rw[q.o,Fl (λy=>y rfl)]);have J:=cf b.o.pk;go_wp2;refine abZ (aI rfl _ rfl (cO b.o.res _ _)) rfl ?_;rw[r.o];exact⟨h,rfl,G.o _ (b.o.put _ _),(b.o.put _ _).grown⟩
  focus
   have r:Hid (Qx p t a 0 x=(pk0,d)):=aa (by rw[q.o,if_pos n])
  rotate_left
 rotate_left
 all_goals
  have Q:(d !=0)=true:=aA.2 n;clear n;go_wp2_with fail;have L:(zc (.pointer (some ⟨w.heap.size+1,0,none⟩)) (pkV pk0 hs0)).run prog u.drew= .ok () (dE u.drew (w.heap.size+1) pk0 hs0):=aW (b.o.res.drewN 1) pk0 hs0;have O:u.drew.cell? ⟨g,2,none⟩=some (.int .i64 d):=(b.o.cur.1.drewN 1).cell 2;have N:(dE u.drew (w.heap.size+1) pk0 hs0).cell? ⟨g,2,none⟩=some (.int .i64 d):=by
   have I:=(b.o.cur.1.drewN 1).mods (S:=λz=>z=w.heap.size+1) (qb (cJ (u.drewN 1) (w.heap.size+1) pk0 hs0) rfl) (by have:=b.o.lt;omega);exact I.cell 2
  have H:Hid (DS w g p h t a d u.drew):=aa ⟨b.o.mods.drewN 1,b.o.pk.drewN 1,b.o.res.drewN 1,b.o.cur.drewN 1,b.o.lt⟩;clear D
  go_region_law (fail)
  all_goals
   go_wp2;refine abZ (aI rfl _ rfl (cO H.o.res _ _)) rfl ?_;rw[r.o];exact⟨hs0,rfl,⟨Rd.nil _ _ _ _,Rd.nil _ _ _ _,Rd.nil _ _ _ _,Rd.nil _ _ _ _,ag _,ag _,ag _,ag _⟩,(H.o.put _ _).grown⟩
def TO(g:Nat)(t:abO)(r:Int×List Pr×Nat×Int)(w:abP)(e:Ending)(w':abP):Prop:=
 ∃A q,e= .returned (.tuple #[.int .i64 r.1,.slice A r.2.1.length q])/\r.2.1.length<=q/\Rd w' w'.heap.size 4 A r.2.1.length (prs r.2.1)/\IC w' g t r.2.2.1 r.2.2.2/\w.grownBy w' (some g)
theorem Rs{g:Nat}{c:Int}{r:Int×List Pr×Nat×Int}{w w':abP}(h:r=(c,[],a,e))(hc:IC w' g t a e)(hm:w.grownBy w' (some g)):TO g t r w (.returned (.tuple #[.int .i64 c,.slice none 0 0])) w':=by
 subst h;exact⟨none,0,rfl,ac _,Rd.nil _ _ _ _,hc,hm⟩
theorem QV(v k:Int)(g a:Nat)(t:abO)(e:Int)(w:abP)(hc:IC w g t a e)(ht:t.size<=140737488351232):
  Calls prog 121 #[.int .i64 v,.int .i64 k,.pointer (some ⟨g,0,none⟩)] w (TO g t (Qu v k t a e) w):=by
 have O:=aa hc;have HT:=aa ht
 obtain⟨⟨H,I,J⟩,K,f1,L⟩:=hc.cells;have aS:=aa hc.2.1;have S:Hid (Qu v k t a e=if v=4\/e≠0\/t.size<=a then(0,[],a,e)else(((br t a 0 1:Nat):Int),(rkP v k t a).1,(rkP v k t a).2.1,rkE v k t a)):=aa rfl;clear hc ht;by_cases C:v=4
 ·have n:Hid (Qu v k t a e=(0,[],a,e)):=aa (by rw[S.o,if_pos (.inl C)]);have e4:(v==4)=true:=aK.2 C;clear C;go_enter func121,ntmps121;go_wp2;go_ret2;exact Rs n.o O.o (Yn _ _)
 have e4:(v==4)=false:=ar.2 C;by_cases he:e=0;rotate_left
 ·have n:Hid (Qu v k t a e=(0,[],a,e)):=aa (by rw[S.o,if_pos (.inr (.inl he))]);have e0:(e !=0)=true:=aA.2 he;clear C he;go_enter func121,ntmps121;go_wp2;go_ret2;exact Rs n.o O.o (Yn _ _)
 subst he;by_cases ha:t.size<=a
 ·have n:Hid (Qu v k t a 0=(0,[],a,0)):=aa (by rw[S.o,if_pos (.inr (.inr ha))]);have d0:(((t.size- a:Nat):Int)==0)=true:=aK.2 (by omega);clear C ha;go_enter func121,ntmps121;go_wp2_with fail;refine Yg (Qy g a t 0 _ O.o) λx0 b=>?_;have C1:=aa (O.o.below b);have M1:=aa (Y7 b (some g));clear b
  go_wp2;go_ret2;exact Rs n.o C1.o M1.o
 have n:Hid (Qu v k t a 0=(((br t a 0 1:Nat):Int),(rkP v k t a).1,(rkP v k t a).2.1,rkE v k t a)):=aa (by rw[S.o,Fl (by rintro (x| x| x);exact C x;exact x rfl;exact ha x)]);have d0:(((t.size- a:Nat):Int)==0)=false:=ar.2 (by omega);have aD:Hid (aH t a 0 1=(t.extract a (a+1),a+1,0)):=aa (dZ (k:=1) (by omega));have T:=aa (iV t a 0);have f:Hid (rkE v k t a=if(rkP v k t a).2.2=0/\t.size<=(rkP v k t a).2.1/\Ia v k (br t a 0 1:Nat) (rkP v k t a).1≠t.extract a t.size then 5 else(rkP v k t a).2.2):=aa rfl;have am:Hid (rkP v k t a=if a+1<t.size then QK v k t (a+1) 0 else([],a+1,0)):=aa rfl;have u:=aa (Sv (v:=v) (k:=k) (a:=a) HT.o);clear C S;go_enter func121,ntmps121;go_wp2_with fail;refine Yg (Qy g a t 0 _ O.o) λx0 b=>?_;have C1:=aa (O.o.below b);have M1:=aa (Y7 b (some g));clear b H I J K f1 L
 go_wp2_with fail;refine Yg (QZ g a t 0 _ C1.o) λx1 b=>?_;have C2:=aa (C1.o.below b);have M2:=aa (M1.o.trans (Y7 b (some g)));clear b
 obtain⟨U,hU⟩:∃U,t.extract a t.size=U:=⟨_,rfl⟩;rw[hU]at f⊢;clear hU;go_wp2_with fail;refine(Qz g a t 0 1 _ C2.o (by decide)).mono ?_;rintro p x2 ⟨rfl,c,o⟩;rw[aD.o]at c;have C3:=aa c;have M3:=aa (M2.o.trans o);clear c o
 generalize br t a 0 1=m at*;have aT:IntKind.i64.wrap (m:Int)=(m:Int):=by rw[aQ];have:=T.o;omega
 have X:Hid (∀ {A:Option Addr} {l:List Pr} {d:Nat} {e2:Int} (y y':abP),Rd y y.heap.size 4 A l.length (prs l)->IC y g t d e2->y.grownBy y' (some g)->Rd y' y'.heap.size 4 A l.length (prs l)):=aa (λy y' Q c o=>(Q.other c.1 (Io _ _ _) o (ac _)).wider o.size);by_cases h1:a+1<t.size
 ·have aG:0<t.size- (a+1):=by omega
  have W:Hid (rkP v k t a=QK v k t (a+1) 0):=aa (by rw[am.o,if_pos h1]);clear h1;go_wp2_with fail;refine Yg (Qy g (a+1) t 0 _ C3.o) λx3 b=>?_;have C4:=aa (C3.o.below b);have M4:=aa (M3.o.trans (Y7 b (some g)));clear b
  go_wp2_with fail;refine(QD v k g (a+1) t 0 _ C4.o HT.o).mono ?_;rintro p x4 ⟨A,q,rfl,N,Q,c,o⟩;rw[<-W.o]at N Q c⊢;generalize rkP v k t a=R at*;obtain⟨l,d,e2⟩:=R;simp only at n f u N Q c⊢;have s:=aa c;have P:=aa (M4.o.trans o);have h:=aa N;have z:=aa Q
  have ap:Hid (l.length=l.length):=aa rfl;clear c o N Q;obtain⟨⟨H,I,J⟩,K,f1,L⟩:=s.o.cells;by_cases M:e2=0;rotate_left
  ·have e0:(e2==0)=false:=ar.2 M;have i:Hid (Qu v k t a 0=((m:Int),l,d,e2)):=aa (by rw[n.o,f.o,Fl (λy=>M y.1)]);clear M;go_wp2;go_ret2;rw[i.o];exact⟨A,q,rfl,h.o,z.o,s.o,P.o⟩
  subst M;by_cases r:t.size<=d;rotate_left
  ·have dl:(((t.size- d:Nat):Int)==0)=false:=ar.2 (by omega);have i:Hid (Qu v k t a 0=((m:Int),l,d,0)):=aa (by rw[n.o,f.o,Fl (λy=>r y.2.1)]);clear r;go_wp2_with fail;refine Yg (Qy g d t 0 _ s.o) λy0 b=>?_;have D:=aa (s.o.below b);have G:=aa (P.o.trans (Y7 b (some g)));have B:=aa ((z.o.below b).wider b.size);clear b H I J K f1 L
   go_wp2;go_ret2;rw[i.o];exact⟨A,q,rfl,h.o,B.o,D.o,G.o⟩
  have dl:(((t.size- d:Nat):Int)==0)=true:=aK.2 (by omega);have F:=aa r;clear r;go_wp2_with fail;refine Yg (Qy g d t 0 _ s.o) λy0 b=>?_;have D:=aa (s.o.below b);have G:=aa (P.o.trans (Y7 b (some g)));have B:=aa ((z.o.below b).wider b.size);clear b H I J K f1 L
  go_wp2_with fail;refine Yg (JD v k m l _ rfl ⟨by omega,by have:=T.o;omega⟩ u.o.1 A q _ B.o (by have:=u.o.2;omega) h.o) λy1 b=>?_;have E:=aa (D.o.below b);have Y:=aa (G.o.trans (Y7 b (some g)));have Z:=aa ((B.o.below b).wider b.size);clear b
  obtain⟨V,hV⟩:∃V,Ia v k m l=V:=⟨_,rfl⟩;rw[hV]at f⊢;clear hV;by_cases j:V=U
  ·have x1:(V.toList==U.toList)=true:=by rw[j];simp
   have i:Hid (Qu v k t a 0=((m:Int),l,d,0)):=aa (by rw[n.o,f.o,Fl (λy=>y.2.2 j)]);clear j;go_wp2;go_ret2;rw[i.o];exact⟨A,q,rfl,h.o,Z.o,E.o,Y.o⟩
  ·have x1:(V.toList==U.toList)=false:=ar.2 (λy=>j ((toList_inj _ _).1 y));have i:Hid (Qu v k t a 0=((m:Int),l,d,5)):=aa (by rw[n.o,f.o,if_pos (by simp;exact⟨F.o,j⟩)]);clear j;go_wp2_with fail;refine(Qv g d t 0 5 _ E.o).mono ?_;rintro p y2 ⟨rfl,c,o⟩;rw[if_pos rfl]at c;have CC:=aa c;have MC:=aa (Y.o.trans o);have ab:=aa ((X.o y1 y2 Z.o E.o o));clear c o
   go_wp2;go_ret2;rw[i.o];exact⟨A,q,rfl,h.o,ab.o,CC.o,MC.o⟩
 ·have aG:¬0<t.size- (a+1):=by omega
  have W:Hid (rkP v k t a=([],a+1,0)):=aa (by rw[am.o,Fl h1]);clear h1;go_wp2_with fail;refine Yg (Qy g (a+1) t 0 _ C3.o) λx3 b=>?_;have s:=aa (C3.o.below b);have P:=aa (M3.o.trans (Y7 b (some g)));clear b
  rw[W.o]at n f u;simp only at n f u;obtain⟨d,an⟩:∃d,a+1=d:=⟨_,rfl⟩;rw[an]at n f s;have h:Hid (([]:List Pr).length<=0):=aa (ac _);have z:Hid (Rd x3 x3.heap.size 4 none ([]:List Pr).length (prs [])):=aa (Rd.nil _ _ _ _);have ap:Hid (([]:List Pr).length=0):=aa rfl;clear an;obtain⟨⟨H,I,J⟩,K,f1,L⟩:=s.o.cells;by_cases r:t.size<=d;rotate_left
  ·have dl:(((t.size- d:Nat):Int)==0)=false:=ar.2 (by omega);have i:Hid (Qu v k t a 0=((m:Int),[],d,0)):=aa (by rw[n.o,f.o,Fl (λy=>r y.2.1)]);clear r;go_wp2_with fail;refine Yg (Qy g d t 0 _ s.o) λy0 b=>?_;have D:=aa (s.o.below b);have G:=aa (P.o.trans (Y7 b (some g)));have B:=aa ((z.o.below b).wider b.size);clear b H I J K f1 L
   go_wp2;go_ret2;rw[i.o];exact⟨none,0,rfl,h.o,B.o,D.o,G.o⟩
  have dl:(((t.size- d:Nat):Int)==0)=true:=aK.2 (by omega);have F:=aa r;clear r;go_wp2_with fail;refine Yg (Qy g d t 0 _ s.o) λy0 b=>?_;have D:=aa (s.o.below b);have G:=aa (P.o.trans (Y7 b (some g)));have B:=aa ((z.o.below b).wider b.size);clear b H I J K f1 L
  go_wp2_with fail;refine Yg (JD v k m [] _ rfl ⟨by omega,by have:=T.o;omega⟩ u.o.1 none 0 _ B.o (by have:=u.o.2;omega) h.o) λy1 b=>?_;have E:=aa (D.o.below b);have Y:=aa (G.o.trans (Y7 b (some g)));have Z:=aa ((B.o.below b).wider b.size);clear b
  obtain⟨V,hV⟩:∃V,Ia v k m []=V:=⟨_,rfl⟩;rw[hV]at f⊢;clear hV;by_cases j:V=U
  ·have x1:(V.toList==U.toList)=true:=by rw[j];simp
   have i:Hid (Qu v k t a 0=((m:Int),[],d,0)):=aa (by rw[n.o,f.o,Fl (λy=>y.2.2 j)]);clear j;go_wp2;go_ret2;rw[i.o];exact⟨none,0,rfl,h.o,Z.o,E.o,Y.o⟩
  ·have x1:(V.toList==U.toList)=false:=ar.2 (λy=>j ((toList_inj _ _).1 y));have i:Hid (Qu v k t a 0=((m:Int),[],d,5)):=aa (by rw[n.o,f.o,if_pos (by simp;exact⟨F.o,j⟩)]);clear j;go_wp2_with fail;refine(Qv g d t 0 5 _ E.o).mono ?_;rintro p y2 ⟨rfl,c,o⟩;rw[if_pos rfl]at c;have CC:=aa c;have MC:=aa (Y.o.trans o);have ab:=aa ((X.o y1 y2 Z.o E.o o));clear c o
   go_wp2;go_ret2;rw[i.o];exact⟨none,0,rfl,h.o,ab.o,CC.o,MC.o⟩
end
