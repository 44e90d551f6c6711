/- Parts: MRft. -/
import Derived.Test.YtemooicddjimbaaGreatDoorTlG0MRfB
set_option maxRecDepth 10000
set_option maxHeartbeats 8000000
namespace Go.Proofs.YtemooicddjimbaaGreatDoor
open Go.RowKit Go.Proofs.Tryz
def Hn(v:Int)(p:Pk):Bool:=decide (pe v p.kind=true/\p=qS p/\¬(v=4/\(p.code≠0\/0<p.props.length))/\1<=p.id/\p.id<=65535/\may p.kind p.code=true)
theorem Ir{v k:Int}{l:List Pr}(h:v=4->l.length=0):GI v k l=(aM k l).2:=by
 unfold GI
 by_cases a:v=4
 ·have b:=h a;have c:l=[]:=aF b;subst c;rw[if_pos a,Fl (by simp),vL]
 ·rw[Fl a]
theorem OS(v:Int)(p:Pk):eS v p=if Hn v p=true then GI v p.kind p.props else 2:=by
 by_cases h:Hn v p=true
 ·obtain⟨g,i,d,m,n,j⟩:=aR (show decide _=true from h);have f:v=4->p.props.length=0:=fun k=>by
   have:¬(0<p.props.length):=fun x=>d ⟨k,.inr x⟩;omega
  rw[if_pos h,Ir f];unfold eS;rw[Fl,Fl,Fl]
  ·exact fun x=>x i
  ·rintro ⟨x,y| y⟩
   ·exact d ⟨x,.inl y⟩
   ·exact y (f x)
  ·rintro (x| x| x| x)
   ·rw[g]at x;cases x
   ·omega
   ·omega
   ·rw[j]at x;cases x
 ·rw[Fl h];have l:¬(pe v p.kind=true/\p=qS p/\¬(v=4/\(p.code≠0\/0<p.props.length))/\1<=p.id/\p.id<=65535/\may p.kind p.code=true):=fun x=>h (au x);unfold eS
  by_cases a:pe v p.kind=false\/p.id<=0\/65536<=p.id\/may p.kind p.code=false
  ·rw[if_pos a]
  rw[Fl a]
  by_cases b:v=4/\(p.code≠0\/p.props.length≠0)
  ·rw[if_pos b]
  rw[Fl b]
  by_cases c:p=qS p
  ·exfalso;apply l;refine⟨?_,c,?_,?_,?_,?_⟩
   ·cases e:pe v p.kind
    ·exact absurd (.inl e) a
    ·rfl
   ·rintro ⟨x,y| y⟩
    ·exact b ⟨x,.inl y⟩
    ·exact b ⟨x,.inr (by omega)⟩
   ·have:¬p.id<=0:=fun x=>a (.inr (.inl x));omega
   ·have:¬65536<=p.id:=fun x=>a (.inr (.inr (.inl x)));omega
   ·cases e:may p.kind p.code
    ·exact absurd (.inr (.inr (.inr e))) a
    ·rfl
  ·rw[if_pos c]
def Ia(v k c:Int)(l:List Pr):ByteArray:=if v=5 then⟨(oG k c l).toArray⟩else⟨#[]⟩
theorem MZ(v k:Int)(l:List Pr):(Hq v k l).size<=131075004:=by
 unfold Hq;split
 ·exact ag _
 ·rw[GW]
  by_cases h:(aM k l).2=0
  ·exact(G6 k l h).2
  ·rw[Ix k l h];exact ag _
theorem Mf(v k c:Int)(l:List Pr):(Ia v k c l).size<=131075005:=by
 unfold Ia;split
 ·rw[GW];unfold oG;split
  ·exact ag _
  ·rw[List.length_append,fM];split
   ·exact aC (ac 1) (by decide)
   ·by_cases h:(aM k l).2=0
    ·have:=(G6 k l h).2;omega
    ·rw[Ix k l h];exact aC (ac 1) (by decide)
 ·exact ag _
section
attribute [local go_sem ↓] bD bF bH bI bu
attribute [local go_sem] bc aD bh bg bK bJ bd aY be ax cI dC dB dt dj di dA dr dp dn bW co YK bZ YM cz cy cw cu YL YP YB bS bP bR
theorem Mh(p:Pk)(h:Hs)(w:World):(qP #[(0,.int .i64 p.kind),(4,.int .i64 p.id),(17,.int .i64 p.code),(20,.slice h.props.a p.props.length h.props.c)]).run prog w= .ok (pkV (qS p) (vU h)) w:=by kernel_rfl
theorem JS(v:Int)(p:Pk)(h:Hs)(w:World)(ip:PkIn w w.heap.size p h)(ok:PkOk p):
  Calls prog 115 #[.int .i64 v,pkV p h] w fun e w'=>e= .returned (.bool (Hn v p))/\Below w.heap.size w w':=by
 have N:=aa ok;have g:=aa ((St.start w).push ip);clear ip ok;go_enter func115,ntmps115;have F:=g.o.cell 0 rfl 0;rw[cI]at F
 go_wp2_with fail
 refine(pS v _).mono ?_;rintro e w1 ⟨rfl,rfl⟩;cases s:YG v
 ·have b:Hid (Hn v p=false):=aa (ah (fun x=>by have J:=aR (show decide _=true from x.1);have Y:=Gy (show decide (v=4\/v=5)=false from s);exact Y J.1));clear s;go_wp2;go_ret;exact⟨by rw[b.o];rfl,g.o.kept⟩
 by_cases K:p.kind<4
 ·have b:Hid (Hn v p=false):=aa (ah (fun x=>by have J:=aR (show decide _=true from x.1);omega));clear s;go_wp2;go_ret;exact⟨by rw[b.o];rfl,g.o.kept⟩
 have d4:decide (p.kind<(4:Int))=false:=ah K
 by_cases Q:7<p.kind
 ·have b:Hid (Hn v p=false):=aa (ah (fun x=>by have J:=aR (show decide _=true from x.1);omega));clear s K;go_wp2;go_ret;exact⟨by rw[b.o];rfl,g.o.kept⟩
 have d7:decide ((7:Int)<p.kind)=false:=ah Q;have M:Hid (pe v p.kind=true):=aa (au ⟨aR (show decide (v=4\/v=5)=true from s),by omega,by omega⟩);clear s K Q;have G:=g.o.cell 0 rfl 4;have o:=g.o.cell 0 rfl 21;have q:=g.o.cell 0 rfl 24;rw[dj]at G;rw[YB]at o;rw[bR]at q;have C:=fun W=>Mh p h W;generalize Z:w.alloc (.cells (pkC p h) PkT)=W at*;have i:Hid (St w [(w.heap.size,p,h),(W.heap.size,qS p,vU h)] (W.alloc (.cells (pkC (qS p) (vU h)) PkT))):=aa (g.o.push (Fh (g.o.into 0 rfl)));have I:Hid (Calls prog 113 #[pkV p h,pkV (qS p) (vU h)] (W.alloc (.cells (pkC (qS p) (vU h)) PkT)) fun e w'=>e= .returned (.bool (decide (p=qS p)))/\Below (W.alloc (.cells (pkC (qS p) (vU h)) PkT)).heap.size (W.alloc (.cells (pkC (qS p) (vU h)) PkT)) w'):=
  aa (GP p (qS p) h (vU h) _ (i.o.into 0 rfl) (i.o.into 1 rfl) N.o.len (Dy N.o.len))
 clear Z;have D:=i.o.ld 0 rfl;have E:=i.o.ld 1 rfl;have m:=i.o.cell 0 rfl 21;have n:=i.o.cell 0 rfl 24;rw[YB]at m;rw[bR]at n
 by_cases j:v=4
 focus
  have V:(v==4)=true:=aK.2 j
  by_cases l:p.code=0
  focus
   have X:(p.code !=0)=false:=by simpa using l
   by_cases t:0<p.props.length
   ·have U:decide ((0:Int)<(p.props.length:Int))=true:=au (by omega);have P:decide (0<p.props.length)=true:=au t;have r:Hid (v=4/\(p.code≠0\/0<p.props.length)):=aa ⟨j,.inr t⟩;clear j l t
    go_wp2_with fail
    refine I.o.mono ?_;rintro e S ⟨rfl,d⟩;have c:=aa (i.o.below d);clear d D E F G o q m n C
    have z:=c.o.cell 0 rfl 0;have A:=c.o.cell 0 rfl 4;have f:=c.o.cell 0 rfl 21;rw[cI]at z;rw[dj]at A;rw[YB]at f
    by_cases a:p=qS p
    rotate_left
    ·have b:Hid (Hn v p=false):=aa (ah (fun x=>a x.2.1));rw[ah a];clear a;go_wp2;go_ret;exact⟨by rw[b.o];rfl,c.o.kept⟩
    rw[au a];have B:=aa a;clear a;have b:Hid (Hn v p=false):=aa (ah (fun x=>x.2.2.1 r.o));go_wp2;go_ret;exact⟨by rw[b.o];rfl,c.o.kept⟩
   focus
    have U:decide ((0:Int)<(p.props.length:Int))=false:=ah (by omega);have P:decide (0<p.props.length)=false:=ah t;have r:Hid (¬(v=4/\(p.code≠0\/0<p.props.length))):=aa (fun x=>x.2.elim (fun y=>y l) t);clear j l t
   rotate_left
  rotate_left
  ·have X:(p.code !=0)=true:=aA.2 l;have r:Hid (v=4/\(p.code≠0\/0<p.props.length)):=aa ⟨j,.inl l⟩;clear j l
   go_wp2_with fail
   refine I.o.mono ?_;rintro e S ⟨rfl,d⟩;have c:=aa (i.o.below d);clear d D E F G o q m n C
   have z:=c.o.cell 0 rfl 0;have A:=c.o.cell 0 rfl 4;have f:=c.o.cell 0 rfl 21;rw[cI]at z;rw[dj]at A;rw[YB]at f
   by_cases a:p=qS p
   rotate_left
   ·have b:Hid (Hn v p=false):=aa (ah (fun x=>a x.2.1));rw[ah a];clear a;go_wp2;go_ret;exact⟨by rw[b.o];rfl,c.o.kept⟩
   rw[au a];have B:=aa a;clear a;have b:Hid (Hn v p=false):=aa (ah (fun x=>x.2.2.1 r.o));go_wp2;go_ret;exact⟨by rw[b.o];rfl,c.o.kept⟩
 rotate_left
 focus
  have V:(v==4)=false:=ar.2 j;have r:Hid (¬(v=4/\(p.code≠0\/0<p.props.length))):=aa (fun x=>j x.1);clear j
 rotate_left
 all_goals
  go_wp2_with fail
  refine I.o.mono ?_;rintro e S ⟨rfl,d⟩;have c:=aa (i.o.below d);clear d D E F G o q m n C
  have z:=c.o.cell 0 rfl 0;have A:=c.o.cell 0 rfl 4;have f:=c.o.cell 0 rfl 21;rw[cI]at z;rw[dj]at A;rw[YB]at f
  by_cases a:p=qS p
  rotate_left
  ·have b:Hid (Hn v p=false):=aa (ah (fun x=>a x.2.1));rw[ah a];clear a;go_wp2;go_ret;exact⟨by rw[b.o];rfl,c.o.kept⟩
  rw[au a];have B:=aa a;clear a
  by_cases k:1<=p.id
  rotate_left
  ·have b:Hid (Hn v p=false):=aa (ah (fun x=>k x.2.2.2.1));have H:decide ((1:Int)<=p.id)=false:=ah k;clear k;go_wp2;go_ret;exact⟨by rw[b.o];rfl,c.o.kept⟩
  by_cases u:p.id<=65535
  rotate_left
  ·have b:Hid (Hn v p=false):=aa (ah (fun x=>u x.2.2.2.2.1));have H:decide ((1:Int)<=p.id)=true:=au k;have O:decide (p.id<=(65535:Int))=false:=ah u;clear k u;go_wp2;go_ret;exact⟨by rw[b.o];rfl,c.o.kept⟩
  have H:decide ((1:Int)<=p.id)=true:=au k;have O:decide (p.id<=(65535:Int))=true:=au u;have L:=aa (And.intro k u);clear k u
  go_wp2_with fail
  refine Yg (Ht p.kind p.code _) fun w4 d=>?_;have T:=aa (c.o.below d);clear d z A f
  have b:Hid (Hn v p=may p.kind p.code):=aa (by
   cases R:may p.kind p.code
   ·exact ah (fun x=>by have:=x.2.2.2.2.2;rw[R]at this;cases this)
   ·exact au ⟨M.o,B.o,r.o,L.o.1,L.o.2,R⟩)
  go_wp2;go_ret;exact⟨by rw[b.o];rfl,T.o.kept⟩
theorem IZ(v:Int)(p:Pk)(h:Hs)(w:World)(ip:PkIn w w.heap.size p h)(ok:PkOk p):
  Calls prog 76 #[.int .i64 v,pkV p h] w fun e w'=>e= .returned (.int .i64 (eS v p))/\Below w.heap.size w w':=by
 have j:=aa ok;have k:=aa ((St.start w).push ip);have l:=aa (OS v p);clear ip ok;go_enter func76,ntmps76;have o:=k.o.ld 0 rfl
 go_wp2_with fail
 refine Yg (JS v p h _ (k.o.into 0 rfl) j.o) fun q d=>?_;have b:=aa (k.o.below d);clear d o
 cases f:Hn v p
 ·have i:Hid (eS v p=2):=aa (by rw[l.o,Fl (fun x=>by rw[f]at x;cases x)]);clear f;go_wp2;go_ret;exact⟨by rw[i.o];rfl,b.o.kept⟩
 have i:Hid (eS v p=GI v p.kind p.props):=aa (by rw[l.o,if_pos f]);clear f;have m:=b.o.cell 0 rfl 0;have g:=b.o.cell 0 rfl 24;rw[cI]at m;rw[bR]at g
 go_wp2_with fail
 refine Yg (Gx v p.kind p.props _ rfl j.o.props h.props.a h.props.c _ (b.o.into 0 rfl).props j.o.len.2.2.2 (b.o.into 0 rfl).caps.2.2.2) fun r d=>?_;have n:=aa (b.o.below d);clear d m g
 go_wp2;go_ret;exact⟨by rw[i.o];rfl,n.o.kept⟩
theorem JD(v k c:Int)(l:List Pr)(n:Nat)(hn:l.length=n)(hc:0<=c/\c<256)(hg:∀p∈l,ea p)(A:Option Addr)(q:Nat)(w:World)(h:Rd w w.heap.size 4 A n (prs l))(hl:n<=4611686018427387904)(hq:n<=q):
  Calls prog 129 #[.int .i64 v,.int .i64 k,.int .i64 c,.slice A n q] w fun e w'=>e= .returned (.string (Ia v k c l))/\Below w.heap.size w w':=by
 have H:=aa h;have G:=aa hg;have j:=aa hn;have I:=aa hl;have J:=aa hq
 clear h hg hn hl hq
 by_cases s:v=5
 rotate_left
 ·have L:(v==5)=false:=ar.2 s;have m:Hid (Ia v k c l=⟨#[]⟩):=aa (Fl s);clear s;go_enter func129,ntmps129;go_wp2;go_ret;exact⟨by rw[m.o];rfl,aq _ _⟩
 have L:(v==5)=true:=aK.2 s;have m:Hid (Ia v k c l=⟨(oG k c l).toArray⟩):=aa (if_pos s);have K:Hid (Hq v k l=⟨(aM k l).1.toArray⟩):=aa (Fl (by omega));have t:Hid (oG k c l=if c=0/\l.length=0 then []else Yk c.toNat 1++(if l.length=0 then []else(aM k l).1)):=aa rfl;have a:c=((UInt8.ofNat c.toNat).toNat:Int):=by rw[UInt8.toNat_ofNat'];omega
 have z:Hid (Yk c.toNat 1=[UInt8.ofNat c.toNat]):=aa (by
  show [UInt8.ofNat (c.toNat/ 2^ 0)]=_;rw[Nat.pow_zero,Nat.div_one])
 have N:=Lg (P:=prog) 77 9 5 underlying77 underlying5 underlying9;have u:IntKind.u8.wrap c=c:=by rw[GM];omega
 clear s;obtain⟨Y,E⟩:∃Y,Ia v k c l=Y:=⟨_,rfl⟩;rw[E]at m⊢;clear E
 by_cases d:c=0/\n=0
 ·have o:Hid (Y=⟨#[]⟩):=aa (by rw[m.o,t.o,if_pos ⟨d.1,by rw[j.o];exact d.2⟩]);have r:(c !=0)=false:=by simpa using d.1
  have C:decide ((0:Int)<(n:Int))=false:=ah (by omega);have y:decide (0<n)=false:=ah (by omega);clear d a hc u;go_enter func129,ntmps129;go_wp2;go_ret;exact⟨by rw[o.o];rfl,aq _ _⟩
 obtain⟨b,g⟩:∃b,UInt8.ofNat c.toNat=b:=⟨_,rfl⟩;rw[g]at a z;have M:=aa d
 by_cases f:n=0
 ·have o:Hid (Y=⟨#[b]⟩):=aa (by rw[m.o,t.o,Fl (by rw[j.o];exact d),if_pos (by rw[j.o];exact f),z.o];rfl);have r:(c !=0)=true:=aA.2 (fun x=>d ⟨x,f⟩);have C:decide ((0:Int)<(n:Int))=false:=ah (by omega);have y:decide (0<n)=false:=ah (by omega);rw[a]at r u⊢;clear d f a hc g;go_enter func129,ntmps129;go_wp2;go_ret;exact⟨by rw[o.o];rfl,(aq _ _).alloc (ac _) _⟩
 have o:Hid (Y=(⟨#[b]⟩:ByteArray)++Hq v k l):=aa (by
  rw[m.o,t.o,Fl (by rw[j.o];exact d),Fl (by rw[j.o];exact f),z.o,K.o];apply eX;rw[jo,fe,jo,jo])
 have B:=aa (MZ v k l);have C:decide ((0:Int)<(n:Int))=true:=au (by omega);have y:decide (0<n)=true:=au (by omega)
 by_cases i:c=0
 focus
  have r:(c !=0)=false:=by simpa using i
  rw[a]at r u⊢;clear d f a hc g i;go_enter func129,ntmps129
 rotate_left
 focus
  have r:(c !=0)=true:=aA.2 i;rw[a]at r u⊢;clear d f a hc g i;go_enter func129,ntmps129
 rotate_left
 all_goals
  go_wp2_with fail
  refine Yg (G5 v k l n j.o G.o A q _ ((H.o.alloc (ac _) _).wider (by simp)) I.o J.o) fun Q g=>?_;have F:=aa (((aq w.heap.size w).alloc (ac _) (.cells #[.int .u8 (b.toNat:Int)] 5)).trans (g.mono (by simp)));clear g
  obtain⟨T,D⟩:∃T,Hq v k l=T:=⟨_,rfl⟩;rw[D]at o B⊢;have O:¬(9223372036854775807<1+T.size):=by have:=B.o;omega
  clear D;go_wp2;go_ret;exact⟨by rw[o.o];rfl,F.o⟩
end
section
attribute [local go_sem ↓] bD bF bH bI bu
attribute [local go_sem] bc aD bh bg bK bJ bd aY be aO ax cI dC dB dt dj di dA dr dp dn bW co YK bZ YM cz cy cw cu YL YP YB bS bP bR
theorem NQ{v:Int}{p:Pk}(g:AckGood v p):Ia v p.kind p.code p.props=⟨(Fa p).toArray⟩:=by
 unfold Ia
 by_cases a:v=5
 ·rw[if_pos a];rfl
 ·obtain⟨b,c⟩:=g.old ((AI g.k).resolve_right a);rw[Fl a,Fa,if_pos ⟨b,by rw[c];rfl⟩]
theorem Yt(v:Int)(p:Pk)(h:Hs)(w:World)(ip:PkIn w w.heap.size p h)(ok:PkOk p):
  Calls prog 81 #[.int .i64 v,pkV p h] w fun e w'=>e= .returned (.tuple #[.string ⟨(Ga v p).1.toArray⟩,.int .i64 (Ga v p).2])/\Below w.heap.size w w':=by
 have r:=aa ok;have s:=aa ((St.start w).push ip);have y:Hid (Ga v p=if eS v p=0 then(Yk p.id.toNat 2++Fa p,0)else([],eS v p)):=aa rfl;clear ip ok;go_enter func81,ntmps81;have M:=s.o.ld 0 rfl
 go_wp2_with fail
 refine Yg (IZ v p h _ (s.o.into 0 rfl) r.o) fun g D=>?_;have b:=aa (s.o.below D);clear D M
 by_cases f:eS v p=0
 rotate_left
 ·have S:(eS v p !=0)=true:=aA.2 f;have q:Hid (Ga v p=([],eS v p)):=aa (by rw[y.o,Fl f]);clear f;go_wp2;go_ret2;exact⟨by rw[q.o];rfl,b.o.kept⟩
 have q:Hid (Ga v p=(Yk p.id.toNat 2++Fa p,0)):=aa (by rw[y.o,if_pos f]);have G:=aa (AJ f);rw[f];clear f;obtain⟨m,E,R⟩:∃m:Nat,Hid (p.id.toNat=m)/\IntKind.u64.wrap p.id=(m:Int):=⟨_,aa rfl,by rw[iZ];have:=G.o.id1;have:=G.o.id2;omega⟩;have K:Hid (m<65536):=aa (by have:=E.out;have:=G.o.id2;omega);obtain⟨X,i⟩:∃X:ByteArray,(⟨(Yk m 2).toArray⟩:ByteArray)=X:=⟨_,rfl⟩;have B:X.size=2:=by rw[<-i,GW,fM]
 obtain⟨Z,j⟩:∃Z:ByteArray,Ia v p.kind p.code p.props=Z:=⟨_,rfl⟩;have C:Z.size<=131075005:=by rw[<-j];exact Mf _ _ _ _
 have z:Hid (((⟨(Ga v p).1.toArray⟩:ByteArray),(Ga v p).2)=(X++Z,0)):=aa (by
  rw[q.o,E.out,<-i,<-j,NQ G.o];simp only;rw[ap2])
 have k:=jw (W:=g) (fun x H=>GV m 2 x (by have:=K.o;omega) (by omega) (by omega));rw[show((2:Nat):Int)=2 from rfl]at k;rw[i]at k;have u:=jw (W:=g) (fun x H=>JD v p.kind p.code p.props _ rfl ⟨G.o.c1,G.o.c2⟩ r.o.props h.props.a h.props.c x ((b.o.below H).into 0 rfl).props r.o.len.2.2.2 (b.o.into 0 rfl).caps.2.2.2);rw[j]at u;have N:=cell_regrown (show g.cell? ⟨w.heap.size,0,none⟩=some (.int .i64 p.kind)from b.o.cell 0 rfl 0);have O:=cell_regrown (show g.cell? ⟨w.heap.size,4,none⟩=some (.int .i64 p.id)from b.o.cell 0 rfl 4);have I:=cell_regrown (show g.cell? ⟨w.heap.size,21,none⟩=some (.int .i64 p.code)from b.o.cell 0 rfl 21);have J:=cell_regrown (show g.cell? ⟨w.heap.size,24,none⟩=some (.slice h.props.a p.props.length h.props.c)from b.o.cell 0 rfl 24);have Q:¬(9223372036854775807<X.size+Z.size):=by omega
 have l:=aa (fun d P=>b.o.kept.trans ((below_regrown g d P).mono b.o.kept.size));clear i j B C
 go_wp2_with fail
 refine wp_region_quiet_below (by kernel_rfl) (by kernel_rfl) ?_
 repeat (go_big_quiet_step (first| with_reducible exact k _ _| with_reducible exact u _ _))
 refine kE ?_;intro _ F;obtain⟨⟨A,osq⟩,t⟩:=F;subst t;have L:=aa (l.o A osq);clear k u N O I J l;generalize Sort.grow (redrawn _ A) osq=wq at*;go_wp2;go_ret2;refine⟨?_,L.o⟩;have n:=congrArg Prod.fst z.o;have o:=congrArg Prod.snd z.o;simp only at n o;rw[n,o];rfl
structure DS (w:World) (g:Nat) (p:Pk) (h:Hs) (t:ByteArray) (a:Nat) (e:Int) (x:World):Prop where
 mods:Mods (fun z=>z=g) w x
 pk:Bk x w.heap.size PkT (pkC p h)
 res:Bk x (w.heap.size+1) PkT (pkC pk0 hs0)
 cur:IC x g t a e
 lt:g<w.heap.size
section
variable {w x y:World} {g a:Nat} {p:Pk} {h:Hs} {t:ByteArray} {e:Int}
theorem DS.below(d:DS w g p h t a e x)(hb:Below x.heap.size x y):DS w g p h t a e y:=
 ⟨d.mods.trans (Mods.of_below hb),Yh d.pk hb,Yh d.res hb,d.cur.below hb,d.lt⟩
theorem DS.turn(d:DS w g p h t a e x){e':Int}(hc:IC y g t a e')(hm:x.grownBy y (some g)):DS w g p h t a e' y:=
 ⟨d.mods.trans (Mods.of_grown hm rfl),d.pk.mods (S:=fun z=>z=g) (Mods.of_grown hm rfl) (by have:=d.lt;omega),d.res.mods (S:=fun z=>z=g) (Mods.of_grown hm rfl) (by have:=d.lt;omega),hc,d.lt⟩
theorem Mods.grown{w x:World}{g:Nat}(h:Mods (fun z=>z=g) w x):w.grownBy x (some g):=⟨h.os,h.tape,h.output,h.size,fun i a b=>h.block i a (fun e=>b (by rw[e]))⟩
theorem DS.put(d:DS w g p h t a e x)(q:Pk)(k:Hs):Mods (fun z=>z=g) w (dE x (w.heap.size+1) q k):=by
 have c:Mods (fun z=>z=g\/z=w.heap.size+1) w (dE x (w.heap.size+1) q k):=(d.mods.mono (fun _ _ b=>.inl b)).trans (Mods.of_grown (cJ x (w.heap.size+1) q k) (.inr rfl));exact c.mono (fun i f b=>b.elim id (fun e=>by omega))
end
end
end Go.Proofs.YtemooicddjimbaaGreatDoor
