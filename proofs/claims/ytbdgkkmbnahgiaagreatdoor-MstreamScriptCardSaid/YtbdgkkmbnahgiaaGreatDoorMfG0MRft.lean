/- A part of what the laws stand on: MRft. -/
import Derived.Test.YtbdgkkmbnahgiaaGreatDoorMfG0Lex
set_option maxRecDepth 10000
set_option maxHeartbeats 8000000
namespace Go.Proofs.YtbdgkkmbnahgiaaGreatDoor
open Go.RowKit Go.Proofs.Tryz
def Hn(v:Int)(p:Pk):Bool:=decide (pe v p.kind=true/\p=qS p/\¬(v=4/\(p.code≠0\/0<p.props.length))/\1<=p.id/\p.id<=65535/\may p.kind p.code=true)
theorem Ir{v k:Int}{l:List Pr}(h:v=4->l.length=0):GI v k l=(aM k l).2:=by
 unfold GI
 by_cases h4:v=4
 ·have h0:=h h4;have hl:l=[]:=aF h0;subst hl;rw[if_pos h4,ae (by simp),vL]
 ·rw[ae h4]
theorem OS(v:Int)(p:Pk):eS v p=if Hn v p=true then GI v p.kind p.props else 2:=by
 by_cases h:Hn v p=true
 ·obtain⟨g1,g2,g3,g4,g5,g6⟩:=aR (show decide _=true from h);have h0:v=4->p.props.length=0:=fun h4=>by
   have:¬(0<p.props.length):=fun x=>g3 ⟨h4,.inr x⟩;omega
  rw[if_pos h,Ir h0];unfold eS;rw[ae,ae,ae]
  ·exact fun x=>x g2
  ·rintro ⟨x,y| y⟩
   ·exact g3 ⟨x,.inl y⟩
   ·exact y (h0 x)
  ·rintro (x| x| x| x)
   ·rw[g1]at x;cases x
   ·omega
   ·omega
   ·rw[g6]at x;cases x
 ·rw[ae h];have hn:¬(pe v p.kind=true/\p=qS p/\¬(v=4/\(p.code≠0\/0<p.props.length))/\1<=p.id/\p.id<=65535/\may p.kind p.code=true):=fun x=>h (au x);unfold eS
  by_cases c1:pe v p.kind=false\/p.id<=0\/65536<=p.id\/may p.kind p.code=false
  ·rw[if_pos c1]
  rw[ae c1]
  by_cases c2:v=4/\(p.code≠0\/p.props.length≠0)
  ·rw[if_pos c2]
  rw[ae c2]
  by_cases c3:p=qS p
  ·exfalso;apply hn;refine⟨?_,c3,?_,?_,?_,?_⟩
   ·cases e:pe v p.kind
    ·exact absurd (.inl e) c1
    ·rfl
   ·rintro ⟨x,y| y⟩
    ·exact c2 ⟨x,.inl y⟩
    ·exact c2 ⟨x,.inr (by omega)⟩
   ·have:¬p.id<=0:=fun x=>c1 (.inr (.inl x));omega
   ·have:¬65536<=p.id:=fun x=>c1 (.inr (.inr (.inl x)));omega
   ·cases e:may p.kind p.code
    ·exact absurd (.inr (.inr (.inr e))) c1
    ·rfl
  ·rw[if_pos c3]
def Ia(v k c:Int)(l:List Pr):ByteArray:=if v=5 then⟨(oG k c l).toArray⟩else⟨#[]⟩
def rkP(v k:Int)(t:ByteArray)(a:Nat):List Pr×Nat×Int:=if a+1<t.size then QK v k t (a+1) 0 else([],a+1,0)
def rkE(v k:Int)(t:ByteArray)(a:Nat):Int:=if(rkP v k t a).2.2=0/\t.size<=(rkP v k t a).2.1/\Ia v k (br t a 0 1:Nat) (rkP v k t a).1≠t.extract a t.size then 5 else(rkP v k t a).2.2
def Qu(v k:Int)(t:ByteArray)(a:Nat)(e:Int):Int×List Pr×Nat×Int:=
 if v=4\/e≠0\/t.size<=a then(0,[],a,e)else((br t a 0 1:Nat),(rkP v k t a).1,(rkP v k t a).2.1,rkE v k t a)
def QE(t:ByteArray)(a:Nat)(e x:Int):Int:=if(if e=0/\a<t.size then 5 else e)=0 then x else(if e=0/\a<t.size then 5 else e)
def Qx(p:Pk)(t:ByteArray)(a:Nat)(e x:Int):Pk×Int:=if QE t a e x≠0 then(pk0,QE t a e x)else(p,0)
def Rj(t:ByteArray)(a:Nat)(e:Int):Int:=if e≠0 then e else if a<t.size then 5 else 0
theorem RZ(t:ByteArray)(a:Nat)(e:Int):(if e=0/\a<t.size then 5 else e)=Rj t a e:=by
 unfold Rj
 by_cases h:e=0
 ·subst h
  by_cases h2:a<t.size
  ·rw[if_pos ⟨rfl,h2⟩,ae (fun x=>x rfl),if_pos h2]
  ·rw[ae (fun x=>h2 x.2),ae (fun x=>x rfl),ae h2]
 ·rw[ae (fun y=>h y.1),if_pos h]
theorem Sx{k:Int}{t:ByteArray}{a:Nat}(ha:a<=t.size):(Qu 5 k t a 0).1=(dg k t a).1/\(Qu 5 k t a 0).2.1=(dg k t a).2.1/\
  ∀x,QE t (Qu 5 k t a 0).2.2.1 (Qu 5 k t a 0).2.2.2 x=QE t (dg k t a).2.2.1 (dg k t a).2.2.2 x:=by
 by_cases h1:t.size<=a
 ·have e1:Qu 5 k t a 0=(0,[],a,0):=by unfold Qu;rw[if_pos (.inr (.inr h1))]
  have e2:dg k t a=(0,[],a,0):=by unfold dg;rw[if_pos h1]
  rw[e1,e2];exact⟨rfl,rfl,fun _=>rfl⟩
 have e1:Qu 5 k t a 0=(((br t a 0 1:Nat):Int),(rkP 5 k t a).1,(rkP 5 k t a).2.1,rkE 5 k t a):=by
  unfold Qu;rw[ae];rintro (x| x| x)
  ·exact absurd x (by decide)
  ·exact x rfl
  ·exact h1 x
 have hwl:ls (t.extract a t.size)=(ls t).drop a:=by
  have hx:=db t a (t.size- a);rw[show a+(t.size- a)=t.size by omega]at hx;rw[hx,bt];rw[bU,aN];exact ac _
 have hsh:∀l,(ls t).drop a=oG k (br t a 0 1:Nat) l->¬(Ia 5 k (br t a 0 1:Nat) l≠t.extract a t.size):=fun l h x=>x (by
  apply eX;unfold Ia;rw[if_pos rfl,jo,hwl,h])
 have hback:=rM (k:=k) ha
 by_cases h2:t.size=a+1
 ·have p1:rkP 5 k t a=([],a+1,0):=by unfold rkP;rw[ae (by omega)]
  have e2:dg k t a=(((br t a 0 1:Nat):Int),[],a+1,if br t a 0 1=0 then 5 else 0):=by unfold dg;rw[ae h1,if_pos h2]
  have e3:rkE 5 k t a=if br t a 0 1=0 then 5 else 0:=by
   unfold rkE;rw[p1];simp only
   by_cases h0:br t a 0 1=0
   ·rw[if_pos h0,if_pos];refine⟨trivial,by omega,fun x=>?_⟩;have hs:=congrArg ByteArray.size x;rw[aj,Ia,if_pos rfl,GW,h0]at hs;have:(oG k ((0:Nat):Int) []).length=0:=by unfold oG;rw[if_pos ⟨rfl,rfl⟩];rfl
    omega
   ·rw[ae h0,ae];rintro ⟨-,-,x⟩;rw[e2,ae h0]at hback;exact hsh _ (hback rfl (by show t.size<=a+1;omega)).1 x
  rw[e1,e2,p1,e3];exact⟨rfl,rfl,fun _=>rfl⟩
 have p1:rkP 5 k t a=((aZ k (t.extract (a+1) t.size)).1,a+1+(aZ k (t.extract (a+1) t.size)).2.1,(aZ k (t.extract (a+1) t.size)).2.2):=by
  unfold rkP QK;rw[if_pos (by omega),ae];rintro (x| x)
  ·exact absurd x (by decide)
  ·exact x rfl
 have e2:dg k t a=(((br t a 0 1:Nat):Int),(aZ k (t.extract (a+1) t.size)).1,a+1+(aZ k (t.extract (a+1) t.size)).2.1,if(aZ k (t.extract (a+1) t.size)).2.2≠0 then(aZ k (t.extract (a+1) t.size)).2.2 else if(aZ k (t.extract (a+1) t.size)).1.length=0 then 5 else 0):=by unfold dg;rw[ae h1,ae h2]
 refine⟨by rw[e1,e2],by rw[e1,e2,p1],fun x=>?_⟩;rw[e1,p1];unfold rkE;rw[p1];simp only;rw[e2]at hback⊢;simp only at hback⊢;generalize aZ k (t.extract (a+1) t.size)=R at*;obtain⟨l,n,e⟩:=R;simp only at hback⊢
 by_cases he:e=0
 rotate_left
 ·rw[ae (fun y=>he y.1),if_pos he]
 subst he;rw[ae (fun y=>y rfl)]at hback;rw[ae (show ¬((0:Int)≠0)from fun y=>y rfl)]
 by_cases hl:l.length=0
 ·rw[if_pos hl];have hl':l=[]:=aF hl;subst hl'
  by_cases hend:t.size<=a+1+n
  ·rw[if_pos];refine⟨rfl,hend,fun y=>?_⟩;have hs:=congrArg ByteArray.size y;rw[aj,Ia,if_pos rfl,GW]at hs;have:(oG k ((br t a 0 1:Nat):Int) []).length<=1:=by
    unfold oG;split
    ·exact ag _
    ·show(da _ 1++[]).length<=1;rw[cW,fM];exact ac _
   omega
  ·rw[ae (fun y=>hend y.2.1)];unfold QE;rw[RZ,RZ];unfold Rj;rw[ae (show ¬((0:Int)≠0)from fun y=>y rfl),if_pos (show a+1+n<t.size by omega),if_pos (show(5:Int)≠0 by decide)]
 ·rw[ae hl]at hback⊢;rw[ae];rintro ⟨-,hend,y⟩;exact hsh _ (hback rfl hend).1 y
theorem Rb{p:Pk}{t:ByteArray}{a:Nat}{e x:Int}:Qx p t a e x=if Rj t a e≠0 then(pk0,Rj t a e)else if x≠0 then(pk0,x)else(p,0):=by
 unfold Qx QE;rw[RZ]
 by_cases h:Rj t a e=0
 ·rw[if_pos h,ae (show ¬(Rj t a e≠0)from fun y=>y h)]
 ·rw[ae h,if_pos h,if_pos h]
def rkR(v k:Int)(s:ByteArray):Int×List Pr×Nat×Int:=Qu v k s (aH s 0 0 2).2.1 (aH s 0 0 2).2.2
def rkQ(v k:Int)(s:ByteArray):Pk:=aP k (br s 0 0 2:Nat) (rkR v k s).1 (rkR v k s).2.1
theorem Ty{v k:Int}{s:ByteArray}(hk:pe v k=true):iW v k s=Qx (rkQ v k s) s (rkR v k s).2.2.1 (rkR v k s).2.2.2 (eS v (rkQ v k s)):=by
 unfold iW;rw[ae (fun x=>by rw[hk]at x;cases x)]
 by_cases h2:s.size<2
 ·have h3:aH s 0 0 (2:Nat)=(⟨#[]⟩,0,3):=kH (by omega);rw[show((2:Nat):Int)=2 from rfl]at h3;have h4:rkR v k s=(0,[],0,3):=by
   unfold rkR Qu;rw[h3];exact if_pos (.inr (.inl (by decide)))
  rw[if_pos h2,Rb,h4];rfl
 rw[ae h2];have h3:aH s 0 0 (2:Nat)=(s.extract 0 (0+2),0+2,0):=dZ (by omega);rw[show((2:Nat):Int)=2 from rfl]at h3;have h4:rkR v k s=Qu v k s 2 0:=by unfold rkR;rw[h3]
 have hv:=AI hk;have hd:(Qu v k s 2 0).1=(it v k s).1/\(Qu v k s 2 0).2.1=(it v k s).2.1/\∀x,QE s (Qu v k s 2 0).2.2.1 (Qu v k s 2 0).2.2.2 x=QE s (it v k s).2.2.1 (it v k s).2.2.2 x:=by
  unfold it
  by_cases h5:v=5
  ·subst h5;rw[if_pos rfl];exact Sx (by omega)
  ·have h:Qu v k s 2 0=(0,[],2,0):=by unfold Qu;exact if_pos (.inl (by omega))
   rw[ae h5,h];exact⟨rfl,rfl,fun _=>rfl⟩
 have hq:rkQ v k s=gq v k s:=by unfold rkQ gq;rw[h4,hd.1,hd.2.1]
 have hdr:Qx (rkQ v k s) s (rkR v k s).2.2.1 (rkR v k s).2.2.2 (eS v (rkQ v k s))=Qx (rkQ v k s) s (it v k s).2.2.1 (it v k s).2.2.2 (eS v (rkQ v k s)):=by
  unfold Qx;rw[h4,hd.2.2]
 rw[hdr,Rb,hq];rfl
theorem Sv{v k:Int}{t:ByteArray}{a:Nat}(ht:t.size<=140737488351232):(∀p∈(rkP v k t a).1,ea p)/\(rkP v k t a).1.length<=1000:=by
 unfold rkP;split
 ·unfold QK;split
  ·exact⟨fun q hq=>(nomatch hq),ag _⟩
  ·show(∀q∈(aZ k (t.extract (a+1) t.size)).1,ea q)/\(aZ k (t.extract (a+1) t.size)).1.length<=1000;have hz:(t.extract (a+1) t.size).size<=140737488351232:=by rw[aj];omega
   generalize t.extract (a+1) t.size=Z at*;refine⟨iT (kind:=k) (s:=Z) hz,?_⟩
   by_cases h:(aZ k Z).2.2=0
   ·exact kj h
   ·rw[fZ h];exact ag _
 ·exact⟨fun q hq=>(nomatch hq),ag _⟩
theorem Rc{v k:Int}{t:ByteArray}{a:Nat}{e:Int}(ht:t.size<=140737488351232):(∀p∈(Qu v k t a e).2.1,ea p)/\(Qu v k t a e).2.1.length<=1000:=by
 unfold Qu;split
 ·exact⟨fun q hq=>(nomatch hq),ag _⟩
 ·exact Sv ht
theorem Tg{v k i:Int}{t:ByteArray}{a:Nat}{e:Int}(ht:t.size<=140737488351232):PkOk (aP k i (Qu v k t a e).1 (Qu v k t a e).2.1):=
 iw (Rc ht).1 (aC (Rc ht).2 (by decide))
theorem MZ(v k:Int)(l:List Pr):(Hq v k l).size<=131075004:=by
 unfold Hq;split
 ·exact ag _
 ·rw[GW]
  by_cases h:(aM k l).2=0
  ·exact(G6 k l h).2
  ·rw[Ix k l h];exact ag _
section
attribute [local go_sem ↓] bD bF bH bI bu
attribute [local go_sem] bc aD bh bg bK bJ bd aY be ax cI dC dB dt dj di dA dr dp dn bW co bO bZ bX cz cy cw cu ct cC cn bS bP bR
theorem Mh(p:Pk)(h:Hs)(w:World):(qP #[(0,.int .i64 p.kind),(4,.int .i64 p.id),(17,.int .i64 p.code),(20,.slice h.props.a p.props.length h.props.c)]).run prog w= .ok (pkV (qS p) (vU h)) w:=by kernel_rfl
theorem JS(v:Int)(p:Pk)(h:Hs)(w:World)(ip:PkIn w w.heap.size p h)(ok:PkOk p):
  Calls prog 245 #[.int .i64 v,pkV p h] w fun e w'=>e= .returned (.bool (Hn v p))/\Below w.heap.size w w':=by
 have OK:=aa ok;have S0:=aa ((St.start w).push ip);clear ip ok;go_enter func245,ntmps245;have k0:=S0.o.cell 0 rfl 0;rw[cI]at k0
 go_wp2_with fail
 refine(pS v _).mono ?_;rintro e w1 ⟨rfl,rfl⟩;cases hk:ba v
 ·have HX:Hid (Hn v p=false):=aa (ah (fun x=>by have h1:=aR (show decide _=true from x.1);have h2:=Gy (show decide (v=4\/v=5)=false from hk);exact h2 h1.1));clear hk;go_wp2;go_ret;exact⟨by rw[HX.o];rfl,S0.o.kept⟩
 by_cases h4:p.kind<4
 ·have HX:Hid (Hn v p=false):=aa (ah (fun x=>by have h1:=aR (show decide _=true from x.1);omega));clear hk;go_wp2;go_ret;exact⟨by rw[HX.o];rfl,S0.o.kept⟩
 have d4:decide (p.kind<(4:Int))=false:=ah h4
 by_cases h7:7<p.kind
 ·have HX:Hid (Hn v p=false):=aa (ah (fun x=>by have h1:=aR (show decide _=true from x.1);omega));clear hk h4;go_wp2;go_ret;exact⟨by rw[HX.o];rfl,S0.o.kept⟩
 have d7:decide ((7:Int)<p.kind)=false:=ah h7;have HKN:Hid (pe v p.kind=true):=aa (au ⟨aR (show decide (v=4\/v=5)=true from hk),by omega,by omega⟩);clear hk h4 h7;have k4:=S0.o.cell 0 rfl 4;have k17:=S0.o.cell 0 rfl 21;have k20:=S0.o.cell 0 rfl 24;rw[dj]at k4;rw[cn]at k17;rw[bR]at k20;have hbd:=fun W=>Mh p h W;generalize hW:w.alloc (.cells (pkC p h) PkT)=W at*;have S2:Hid (St w [(w.heap.size,p,h),(W.heap.size,qS p,vU h)] (W.alloc (.cells (pkC (qS p) (vU h)) PkT))):=aa (S0.o.push (Fh (S0.o.into 0 rfl)));have C2:Hid (Calls prog 243 #[pkV p h,pkV (qS p) (vU h)] (W.alloc (.cells (pkC (qS p) (vU h)) PkT)) fun e w'=>e= .returned (.bool (decide (p=qS p)))/\Below (W.alloc (.cells (pkC (qS p) (vU h)) PkT)).heap.size (W.alloc (.cells (pkC (qS p) (vU h)) PkT)) w'):=
  aa (GP p (qS p) h (vU h) _ (S2.o.into 0 rfl) (S2.o.into 1 rfl) OK.o.len (Dy OK.o.len))
 clear hW;have hl0:=S2.o.ld 0 rfl;have hl1:=S2.o.ld 1 rfl;have j17:=S2.o.cell 0 rfl 21;have j20:=S2.o.cell 0 rfl 24;rw[cn]at j17;rw[bR]at j20
 by_cases hv:v=4
 ·have e4:(v==4)=true:=aK.2 hv
  by_cases hc:p.code=0
  ·have ec:(p.code !=0)=false:=by simpa using hc
   by_cases hl:0<p.props.length
   ·have dl:decide ((0:Int)<(p.props.length:Int))=true:=au (by omega);have dl1:decide (0<p.props.length)=true:=au hl;have HO:Hid (v=4/\(p.code≠0\/0<p.props.length)):=aa ⟨hv,.inr hl⟩;clear hv hc hl
    go_wp2_with fail
    refine C2.o.mono ?_;rintro e w3 ⟨rfl,hb⟩;have S3:=aa (S2.o.below hb);clear hb hl0 hl1 k0 k4 k17 k20 j17 j20 hbd
    have m0:=S3.o.cell 0 rfl 0;have m4:=S3.o.cell 0 rfl 4;have m17:=S3.o.cell 0 rfl 21;rw[cI]at m0;rw[dj]at m4;rw[cn]at m17
    by_cases hsm:p=qS p
    rotate_left
    ·have HX:Hid (Hn v p=false):=aa (ah (fun x=>hsm x.2.1));rw[ah hsm];clear hsm;go_wp2;go_ret;exact⟨by rw[HX.o];rfl,S3.o.kept⟩
    rw[au hsm];have HSM:=aa hsm;clear hsm;have HX:Hid (Hn v p=false):=aa (ah (fun x=>x.2.2.1 HO.o));go_wp2;go_ret;exact⟨by rw[HX.o];rfl,S3.o.kept⟩
   ·have dl:decide ((0:Int)<(p.props.length:Int))=false:=ah (by omega);have dl1:decide (0<p.props.length)=false:=ah hl;have HO:Hid (¬(v=4/\(p.code≠0\/0<p.props.length))):=aa (fun x=>x.2.elim (fun y=>y hc) hl);clear hv hc hl
    go_wp2_with fail
    refine C2.o.mono ?_;rintro e w3 ⟨rfl,hb⟩;have S3:=aa (S2.o.below hb);clear hb hl0 hl1 k0 k4 k17 k20 j17 j20 hbd
    have m0:=S3.o.cell 0 rfl 0;have m4:=S3.o.cell 0 rfl 4;have m17:=S3.o.cell 0 rfl 21;rw[cI]at m0;rw[dj]at m4;rw[cn]at m17
    by_cases hsm:p=qS p
    rotate_left
    ·have HX:Hid (Hn v p=false):=aa (ah (fun x=>hsm x.2.1));rw[ah hsm];clear hsm;go_wp2;go_ret;exact⟨by rw[HX.o];rfl,S3.o.kept⟩
    rw[au hsm];have HSM:=aa hsm;clear hsm
    by_cases i1:1<=p.id
    rotate_left
    ·have HX:Hid (Hn v p=false):=aa (ah (fun x=>i1 x.2.2.2.1));have di1:decide ((1:Int)<=p.id)=false:=ah i1;clear i1;go_wp2;go_ret;exact⟨by rw[HX.o];rfl,S3.o.kept⟩
    by_cases i2:p.id<=65535
    rotate_left
    ·have HX:Hid (Hn v p=false):=aa (ah (fun x=>i2 x.2.2.2.2.1));have di1:decide ((1:Int)<=p.id)=true:=au i1;have di2:decide (p.id<=(65535:Int))=false:=ah i2;clear i1 i2;go_wp2;go_ret;exact⟨by rw[HX.o];rfl,S3.o.kept⟩
    have di1:decide ((1:Int)<=p.id)=true:=au i1;have di2:decide (p.id<=(65535:Int))=true:=au i2;have HI:=aa (And.intro i1 i2);clear i1 i2
    go_wp2_with fail
    refine(Ht p.kind p.code _).mono ?_;rintro e w4 ⟨rfl,hb⟩;have S4:=aa (S3.o.below hb);clear hb m0 m4 m17
    have HX:Hid (Hn v p=may p.kind p.code):=aa (by
     cases hm:may p.kind p.code
     ·exact ah (fun x=>by have:=x.2.2.2.2.2;rw[hm]at this;cases this)
     ·exact au ⟨HKN.o,HSM.o,HO.o,HI.o.1,HI.o.2,hm⟩)
    go_wp2;go_ret;exact⟨by rw[HX.o];rfl,S4.o.kept⟩
  ·have ec:(p.code !=0)=true:=aA.2 hc;have HO:Hid (v=4/\(p.code≠0\/0<p.props.length)):=aa ⟨hv,.inl hc⟩;clear hv hc
   go_wp2_with fail
   refine C2.o.mono ?_;rintro e w3 ⟨rfl,hb⟩;have S3:=aa (S2.o.below hb);clear hb hl0 hl1 k0 k4 k17 k20 j17 j20 hbd
   have m0:=S3.o.cell 0 rfl 0;have m4:=S3.o.cell 0 rfl 4;have m17:=S3.o.cell 0 rfl 21;rw[cI]at m0;rw[dj]at m4;rw[cn]at m17
   by_cases hsm:p=qS p
   rotate_left
   ·have HX:Hid (Hn v p=false):=aa (ah (fun x=>hsm x.2.1));rw[ah hsm];clear hsm;go_wp2;go_ret;exact⟨by rw[HX.o];rfl,S3.o.kept⟩
   rw[au hsm];have HSM:=aa hsm;clear hsm;have HX:Hid (Hn v p=false):=aa (ah (fun x=>x.2.2.1 HO.o));go_wp2;go_ret;exact⟨by rw[HX.o];rfl,S3.o.kept⟩
 ·have e4:(v==4)=false:=ar.2 hv;have HO:Hid (¬(v=4/\(p.code≠0\/0<p.props.length))):=aa (fun x=>hv x.1);clear hv
  go_wp2_with fail
  refine C2.o.mono ?_;rintro e w3 ⟨rfl,hb⟩;have S3:=aa (S2.o.below hb);clear hb hl0 hl1 k0 k4 k17 k20 j17 j20 hbd
  have m0:=S3.o.cell 0 rfl 0;have m4:=S3.o.cell 0 rfl 4;have m17:=S3.o.cell 0 rfl 21;rw[cI]at m0;rw[dj]at m4;rw[cn]at m17
  by_cases hsm:p=qS p
  rotate_left
  ·have HX:Hid (Hn v p=false):=aa (ah (fun x=>hsm x.2.1));rw[ah hsm];clear hsm;go_wp2;go_ret;exact⟨by rw[HX.o];rfl,S3.o.kept⟩
  rw[au hsm];have HSM:=aa hsm;clear hsm
  by_cases i1:1<=p.id
  rotate_left
  ·have HX:Hid (Hn v p=false):=aa (ah (fun x=>i1 x.2.2.2.1));have di1:decide ((1:Int)<=p.id)=false:=ah i1;clear i1;go_wp2;go_ret;exact⟨by rw[HX.o];rfl,S3.o.kept⟩
  by_cases i2:p.id<=65535
  rotate_left
  ·have HX:Hid (Hn v p=false):=aa (ah (fun x=>i2 x.2.2.2.2.1));have di1:decide ((1:Int)<=p.id)=true:=au i1;have di2:decide (p.id<=(65535:Int))=false:=ah i2;clear i1 i2;go_wp2;go_ret;exact⟨by rw[HX.o];rfl,S3.o.kept⟩
  have di1:decide ((1:Int)<=p.id)=true:=au i1;have di2:decide (p.id<=(65535:Int))=true:=au i2;have HI:=aa (And.intro i1 i2);clear i1 i2
  go_wp2_with fail
  refine(Ht p.kind p.code _).mono ?_;rintro e w4 ⟨rfl,hb⟩;have S4:=aa (S3.o.below hb);clear hb m0 m4 m17
  have HX:Hid (Hn v p=may p.kind p.code):=aa (by
   cases hm:may p.kind p.code
   ·exact ah (fun x=>by have:=x.2.2.2.2.2;rw[hm]at this;cases this)
   ·exact au ⟨HKN.o,HSM.o,HO.o,HI.o.1,HI.o.2,hm⟩)
  go_wp2;go_ret;exact⟨by rw[HX.o];rfl,S4.o.kept⟩
theorem IZ(v:Int)(p:Pk)(h:Hs)(w:World)(ip:PkIn w w.heap.size p h)(ok:PkOk p):
  Calls prog 183 #[.int .i64 v,pkV p h] w fun e w'=>e= .returned (.int .i64 (eS v p))/\Below w.heap.size w w':=by
 have OK:=aa ok;have S0:=aa ((St.start w).push ip);have HE:=aa (OS v p);clear ip ok;go_enter func183,ntmps183;have hl:=S0.o.ld 0 rfl
 go_wp2_with fail
 refine(JS v p h _ (S0.o.into 0 rfl) OK.o).mono ?_;rintro e w1 ⟨rfl,hb⟩;have S1:=aa (S0.o.below hb);clear hb hl
 cases hr:Hn v p
 ·have HX:Hid (eS v p=2):=aa (by rw[HE.o,ae (fun x=>by rw[hr]at x;cases x)]);clear hr;go_wp2;go_ret;exact⟨by rw[HX.o];rfl,S1.o.kept⟩
 have HX:Hid (eS v p=GI v p.kind p.props):=aa (by rw[HE.o,if_pos hr]);clear hr;have k0:=S1.o.cell 0 rfl 0;have k20:=S1.o.cell 0 rfl 24;rw[cI]at k0;rw[bR]at k20
 go_wp2_with fail
 refine(Gx v p.kind p.props _ rfl OK.o.props h.props.a h.props.c _ (S1.o.into 0 rfl).props OK.o.len.2.2.2 (S1.o.into 0 rfl).caps.2.2.2).mono ?_;rintro e w2 ⟨rfl,hb⟩;have S2:=aa (S1.o.below hb);clear hb k0 k20
 go_wp2;go_ret;exact⟨by rw[HX.o];rfl,S2.o.kept⟩
theorem JD(v k c:Int)(l:List Pr)(n:Nat)(hn:l.length=n)(hc:0<=c/\c<256)(hg:∀p∈l,ea p)(A:Option Addr)(q:Nat)(w:World)(h:Rd w w.heap.size 4 A n (prs l))(hl:n<=4611686018427387904)(hq:n<=q):
  Calls prog 256 #[.int .i64 v,.int .i64 k,.int .i64 c,.slice A n q] w fun e w'=>e= .returned (.string (Ia v k c l))/\Below w.heap.size w w':=by
 have H:=aa h;have HG:=aa hg;have HN:=aa hn;have HL:=aa hl;have HQ:=aa hq
 clear h hg hn hl hq
 by_cases h5:v=5
 rotate_left
 ·have e5:(v==5)=false:=ar.2 h5;have HX:Hid (Ia v k c l=⟨#[]⟩):=aa (ae h5);clear h5;go_enter func256,ntmps256;go_wp2;go_ret;exact⟨by rw[HX.o];rfl,aq _ _⟩
 have e5:(v==5)=true:=aK.2 h5;have HX:Hid (Ia v k c l=⟨(oG k c l).toArray⟩):=aa (if_pos h5);have HT:Hid (Hq v k l=⟨(aM k l).1.toArray⟩):=aa (ae (by omega));have HTL:Hid (oG k c l=if c=0/\l.length=0 then []else da c.toNat 1++(if l.length=0 then []else(aM k l).1)):=aa rfl;have hcb:c=((UInt8.ofNat c.toNat).toNat:Int):=by rw[UInt8.toNat_ofNat'];omega
 have HP:Hid (da c.toNat 1=[UInt8.ofNat c.toNat]):=aa (by
  show [UInt8.ofNat (c.toNat/ 2^ 0)]=_;rw[Nat.pow_zero,Nat.div_one])
 have hcv:=Lg (P:=prog) 80 9 5 underlying80 underlying5 underlying9;have hw:IntKind.u8.wrap c=c:=by rw[GM];omega
 clear h5;obtain⟨Y,hY⟩:∃Y,Ia v k c l=Y:=⟨_,rfl⟩;rw[hY]at HX⊢;clear hY
 by_cases h0:c=0/\n=0
 ·have HY:Hid (Y=⟨#[]⟩):=aa (by rw[HX.o,HTL.o,if_pos ⟨h0.1,by rw[HN.o];exact h0.2⟩]);have ec:(c !=0)=false:=by simpa using h0.1
  have dl:decide ((0:Int)<(n:Int))=false:=ah (by omega);have dl1:decide (0<n)=false:=ah (by omega);clear h0 hcb hc hw;go_enter func256,ntmps256;go_wp2;go_ret;exact⟨by rw[HY.o];rfl,aq _ _⟩
 obtain⟨b,hb⟩:∃b,UInt8.ofNat c.toNat=b:=⟨_,rfl⟩;rw[hb]at hcb HP;have HC0:=aa h0
 by_cases hn0:n=0
 ·have HY:Hid (Y=⟨#[b]⟩):=aa (by rw[HX.o,HTL.o,ae (by rw[HN.o];exact h0),if_pos (by rw[HN.o];exact hn0),HP.o];rfl);have ec:(c !=0)=true:=aA.2 (fun x=>h0 ⟨x,hn0⟩);have dl:decide ((0:Int)<(n:Int))=false:=ah (by omega);have dl1:decide (0<n)=false:=ah (by omega);rw[hcb]at ec hw⊢;clear h0 hn0 hcb hc hb;go_enter func256,ntmps256;go_wp2;go_ret;exact⟨by rw[HY.o];rfl,(aq _ _).alloc (ac _) _⟩
 have HY:Hid (Y=(⟨#[b]⟩:ByteArray)++Hq v k l):=aa (by
  rw[HX.o,HTL.o,ae (by rw[HN.o];exact h0),ae (by rw[HN.o];exact hn0),HP.o,HT.o];apply eX;rw[jo,fe,jo,jo])
 have HS:=aa (MZ v k l);have dl:decide ((0:Int)<(n:Int))=true:=au (by omega);have dl1:decide (0<n)=true:=au (by omega)
 by_cases hc0:c=0
 ·have ec:(c !=0)=false:=by simpa using hc0
  rw[hcb]at ec hw⊢;clear h0 hn0 hcb hc hb hc0;go_enter func256,ntmps256
  go_wp2_with fail
  refine(G5 v k l n HN.o HG.o A q _ ((H.o.alloc (ac _) _).wider (by simp)) HL.o HQ.o).mono ?_;rintro e w1 ⟨rfl,hb⟩;have HB:=aa (((aq w.heap.size w).alloc (ac _) (.cells #[.int .u8 (b.toNat:Int)] 5)).trans (hb.mono (by simp)));clear hb
  obtain⟨T,hT⟩:∃T,Hq v k l=T:=⟨_,rfl⟩;rw[hT]at HY HS⊢;have hs1:¬(9223372036854775807<1+T.size):=by have:=HS.o;omega
  clear hT;go_wp2;go_ret;exact⟨by rw[HY.o];rfl,HB.o⟩
 ·have ec:(c !=0)=true:=aA.2 hc0;rw[hcb]at ec hw⊢;clear h0 hn0 hcb hc hb hc0;go_enter func256,ntmps256
  go_wp2_with fail
  refine(G5 v k l n HN.o HG.o A q _ ((H.o.alloc (ac _) _).wider (by simp)) HL.o HQ.o).mono ?_;rintro e w1 ⟨rfl,hb⟩;have HB:=aa (((aq w.heap.size w).alloc (ac _) (.cells #[.int .u8 (b.toNat:Int)] 5)).trans (hb.mono (by simp)));clear hb
  obtain⟨T,hT⟩:∃T,Hq v k l=T:=⟨_,rfl⟩;rw[hT]at HY HS⊢;have hs1:¬(9223372036854775807<1+T.size):=by have:=HS.o;omega
  clear hT;go_wp2;go_ret;exact⟨by rw[HY.o];rfl,HB.o⟩
end
section
attribute [local go_sem ↓] bD bF bH bI bu
attribute [local go_sem] bc aD bh bg bK bJ bd aY be aO ax cI dC dB dt dj di dA dr dp dn bW co bO bZ bX cz cy cw cu ct cC cn bS bP bR
def TL(g:Nat)(r:Pk×Int)(w:World)(e:Ending)(w':World):Prop:=∃k,e= .returned (.tuple #[pkV r.1 k,.int .i64 r.2])/\PkIn w' w'.heap.size r.1 k/\w.grownBy w' (some g)
structure DS (w:World) (g:Nat) (p:Pk) (h:Hs) (t:ByteArray) (a:Nat) (e:Int) (x:World):Prop where
 mods:Mods (fun z=>z=g) w x
 pk:Bk x w.heap.size PkT (pkC p h)
 res:Bk x (w.heap.size+1) PkT (pkC pk0 hs0)
 cur:IC x g t a e
 lt:g<w.heap.size
section
variable {w x y:World} {g a:Nat} {p:Pk} {h:Hs} {t:ByteArray} {e:Int}
theorem DS.below(d:DS w g p h t a e x)(hb:Below x.heap.size x y):DS w g p h t a e y:=
 ⟨d.mods.trans (Mods.of_below hb),d.pk.below hb d.pk.lt,d.res.below hb d.res.lt,d.cur.below hb,d.lt⟩
theorem DS.turn(d:DS w g p h t a e x){e':Int}(hc:IC y g t a e')(hm:x.grownBy y (some g)):DS w g p h t a e' y:=
 ⟨d.mods.trans (Mods.of_grown hm rfl),d.pk.mods (S:=fun z=>z=g) (Mods.of_grown hm rfl) (by have:=d.lt;omega),d.res.mods (S:=fun z=>z=g) (Mods.of_grown hm rfl) (by have:=d.lt;omega),hc,d.lt⟩
theorem Mods.grown{w x:World}{g:Nat}(h:Mods (fun z=>z=g) w x):w.grownBy x (some g):=⟨h.os,h.tape,h.output,h.size,fun i hi hn=>h.block i hi (fun e=>hn (by rw[e]))⟩
theorem DS.put(d:DS w g p h t a e x)(q:Pk)(k:Hs):Mods (fun z=>z=g) w (dE x (w.heap.size+1) q k):=by
 have h1:Mods (fun z=>z=g\/z=w.heap.size+1) w (dE x (w.heap.size+1) q k):=(d.mods.mono (fun _ _ hz=>.inl hz)).trans (Mods.of_grown (cJ x (w.heap.size+1) q k) (.inr rfl));exact h1.mono (fun i hi hz=>hz.elim id (fun e=>by omega))
end
theorem QF(g a:Nat)(t:ByteArray)(e x:Int)(p:Pk)(h:Hs)(w:World)(hc:IC w g t a e)(hi:∀y,Mods (fun z=>z=g) w y->PkIn y y.heap.size p h):
  Calls prog 206 #[.pointer (some ⟨g,0,none⟩),pkV p h,.int .i64 x] w (TL g (Qx p t a e x) w):=by
 have HI:=aa hi;have D0:Hid (DS w g p h t a e ((w.alloc (.cells (pkC p h) PkT)).alloc (.cells (pkC pk0 hs0) PkT))):=aa
  ⟨(Mods.refl w).alloc _ |>.alloc _,(Bk.fresh w PkT (pkC p h)).alloc _,by
    have:=Bk.fresh (w.alloc (.cells (pkC p h) PkT)) PkT (pkC pk0 hs0);rwa[show(w.alloc (.cells (pkC p h) PkT)).heap.size=w.heap.size+1 by simp]at this,⟨(hc.1.alloc _).alloc _,hc.2⟩,hc.lt⟩
 have HR:Hid (Qx p t a e x=if QE t a e x≠0 then(pk0,QE t a e x)else(p,0)):=aa rfl;have HDE:Hid (QE t a e x=if(if e=0/\a<t.size then 5 else e)=0 then x else(if e=0/\a<t.size then 5 else e)):=aa rfl;clear hc hi;obtain⟨⟨c0,c1,c2⟩,-⟩:=D0.o.cur.cells;go_enter func206,ntmps206
 by_cases he:e=0
 rotate_left
 ·have e0:(e==0)=false:=ar.2 he;have HE1:Hid (QE t a e x=if e=0 then x else e):=aa (by rw[HDE.o,ae (show ¬(e=0/\a<t.size)from fun y=>he y.1)]);clear he;clear c0 c1 c2;obtain⟨⟨c0,c1,c2⟩,-⟩:=D0.o.cur.cells
  go_wp2_with fail
  refine(Qv g a t _ x _ D0.o.cur).mono ?_;rintro e' x2 ⟨rfl,hcu,hm⟩;have D2:=aa (D0.o.turn hcu hm);clear hcu hm c0 c1 c2
  rw[<-HE1.o]at D2;obtain⟨E2,hE2⟩:∃E2,QE t a e x=E2:=⟨_,rfl⟩;rw[hE2]at D2 HR;clear HE1 HDE hE2;obtain⟨⟨c0,c1,c2⟩,-⟩:=D2.o.cur.cells;have hst:=aW D2.o.res
  by_cases hz:E2=0
  ·subst hz;have HX:Hid (Qx p t a e x=(p,0)):=aa (by rw[HR.o,ae (fun y=>y rfl)]);have hl:=cf D2.o.pk;go_wp2;refine av (aI rfl _ rfl (cO D2.o.res _ _)) rfl ?_;rw[HX.o];exact⟨h,rfl,HI.o _ (D2.o.put _ _),(D2.o.put _ _).grown⟩
  ·have HX:Hid (Qx p t a e x=(pk0,E2)):=aa (by rw[HR.o,if_pos hz]);have e9:(E2 !=0)=true:=aA.2 hz;clear hz
   go_wp2_with fail
   have hst1:(zc (.pointer (some ⟨w.heap.size+1,0,none⟩)) (pkV pk0 hs0)).run prog x2.drew= .ok () (dE x2.drew (w.heap.size+1) pk0 hs0):=aW (D2.o.res.drewN 1) pk0 hs0;have hcd:x2.drew.cell? ⟨g,2,none⟩=some (.int .i64 E2):=(D2.o.cur.1.drewN 1).cell 2;have d2':(dE x2.drew (w.heap.size+1) pk0 hs0).cell? ⟨g,2,none⟩=some (.int .i64 E2):=by
    have hbb:=(D2.o.cur.1.drewN 1).mods (S:=fun z=>z=w.heap.size+1) (Mods.of_grown (cJ (x2.drewN 1) (w.heap.size+1) pk0 hs0) rfl) (by have:=D2.o.lt;omega);exact hbb.cell 2
   have D3:Hid (DS w g p h t a E2 x2.drew):=aa ⟨D2.o.mods.drewN 1,D2.o.pk.drewN 1,D2.o.res.drewN 1,D2.o.cur.drewN 1,D2.o.lt⟩;clear hst
   go_region_law (fail)
   all_goals
    go_wp2;refine av (aI rfl _ rfl (cO D3.o.res _ _)) rfl ?_;rw[HX.o];exact⟨hs0,rfl,⟨Rd.nil _ _ _ _,Rd.nil _ _ _ _,Rd.nil _ _ _ _,Rd.nil _ _ _ _,ag _,ag _,ag _,ag _⟩,(D3.o.put _ _).grown⟩
 subst he
 by_cases hlt:a<t.size
 ·have hp0:0<t.size- a:=by omega
  have HE1:Hid (QE t a 0 x=if(5:Int)=0 then x else 5):=aa (by rw[HDE.o,if_pos (show(0:Int)=0/\a<t.size from⟨rfl,hlt⟩)]);clear hlt
  go_wp2_with fail
  refine(Qy g a t 0 _ D0.o.cur).mono ?_;rintro e' x0 ⟨rfl,hb⟩;have D1:=aa (D0.o.below hb);clear hb c0 c1 c2
  obtain⟨⟨c0,c1,c2⟩,-⟩:=D1.o.cur.cells
  go_wp2_with fail
  refine(Qv g a t 0 5 _ D1.o.cur).mono ?_;rintro e' x1 ⟨rfl,hcu,hm⟩;rw[if_pos rfl]at hcu;have DA:=aa (D1.o.turn hcu hm);clear hcu hm
  clear c0 c1 c2;obtain⟨⟨c0,c1,c2⟩,-⟩:=DA.o.cur.cells
  go_wp2_with fail
  refine(Qv g a t _ x _ DA.o.cur).mono ?_;rintro e' x2 ⟨rfl,hcu,hm⟩;have D2:=aa (DA.o.turn hcu hm);clear hcu hm c0 c1 c2
  rw[<-HE1.o]at D2;obtain⟨E2,hE2⟩:∃E2,QE t a 0 x=E2:=⟨_,rfl⟩;rw[hE2]at D2 HR;clear HE1 HDE hE2;obtain⟨⟨c0,c1,c2⟩,-⟩:=D2.o.cur.cells;have hst:=aW D2.o.res
  by_cases hz:E2=0
  ·subst hz;have HX:Hid (Qx p t a 0 x=(p,0)):=aa (by rw[HR.o,ae (fun y=>y rfl)]);have hl:=cf D2.o.pk;go_wp2;refine av (aI rfl _ rfl (cO D2.o.res _ _)) rfl ?_;rw[HX.o];exact⟨h,rfl,HI.o _ (D2.o.put _ _),(D2.o.put _ _).grown⟩
  ·have HX:Hid (Qx p t a 0 x=(pk0,E2)):=aa (by rw[HR.o,if_pos hz]);have e9:(E2 !=0)=true:=aA.2 hz;clear hz
   go_wp2_with fail
   have hst1:(zc (.pointer (some ⟨w.heap.size+1,0,none⟩)) (pkV pk0 hs0)).run prog x2.drew= .ok () (dE x2.drew (w.heap.size+1) pk0 hs0):=aW (D2.o.res.drewN 1) pk0 hs0;have hcd:x2.drew.cell? ⟨g,2,none⟩=some (.int .i64 E2):=(D2.o.cur.1.drewN 1).cell 2;have d2':(dE x2.drew (w.heap.size+1) pk0 hs0).cell? ⟨g,2,none⟩=some (.int .i64 E2):=by
    have hbb:=(D2.o.cur.1.drewN 1).mods (S:=fun z=>z=w.heap.size+1) (Mods.of_grown (cJ (x2.drewN 1) (w.heap.size+1) pk0 hs0) rfl) (by have:=D2.o.lt;omega);exact hbb.cell 2
   have D3:Hid (DS w g p h t a E2 x2.drew):=aa ⟨D2.o.mods.drewN 1,D2.o.pk.drewN 1,D2.o.res.drewN 1,D2.o.cur.drewN 1,D2.o.lt⟩;clear hst
   go_region_law (fail)
   all_goals
    go_wp2;refine av (aI rfl _ rfl (cO D3.o.res _ _)) rfl ?_;rw[HX.o];exact⟨hs0,rfl,⟨Rd.nil _ _ _ _,Rd.nil _ _ _ _,Rd.nil _ _ _ _,Rd.nil _ _ _ _,ag _,ag _,ag _,ag _⟩,(D3.o.put _ _).grown⟩
 ·have hp0:¬0<t.size- a:=by omega
  have HE1:Hid (QE t a 0 x=x):=aa (by rw[HDE.o,ae (show ¬((0:Int)=0/\a<t.size)from fun y=>hlt y.2),if_pos rfl]);clear hlt
  go_wp2_with fail
  refine(Qy g a t 0 _ D0.o.cur).mono ?_;rintro e' x0 ⟨rfl,hb⟩;have DA:=aa (D0.o.below hb);clear hb
  clear c0 c1 c2;obtain⟨⟨c0,c1,c2⟩,-⟩:=DA.o.cur.cells
  go_wp2_with fail
  refine(Qv g a t _ x _ DA.o.cur).mono ?_;rintro e' x2 ⟨rfl,hcu,hm⟩;rw[if_pos rfl]at hcu;have D2:=aa (DA.o.turn hcu hm);clear hcu hm c0 c1 c2
  rw[<-HE1.o]at D2;obtain⟨E2,hE2⟩:∃E2,QE t a 0 x=E2:=⟨_,rfl⟩;rw[hE2]at D2 HR;clear HE1 HDE hE2;obtain⟨⟨c0,c1,c2⟩,-⟩:=D2.o.cur.cells;have hst:=aW D2.o.res
  by_cases hz:E2=0
  ·subst hz;have HX:Hid (Qx p t a 0 x=(p,0)):=aa (by rw[HR.o,ae (fun y=>y rfl)]);have hl:=cf D2.o.pk;go_wp2;refine av (aI rfl _ rfl (cO D2.o.res _ _)) rfl ?_;rw[HX.o];exact⟨h,rfl,HI.o _ (D2.o.put _ _),(D2.o.put _ _).grown⟩
  ·have HX:Hid (Qx p t a 0 x=(pk0,E2)):=aa (by rw[HR.o,if_pos hz]);have e9:(E2 !=0)=true:=aA.2 hz;clear hz
   go_wp2_with fail
   have hst1:(zc (.pointer (some ⟨w.heap.size+1,0,none⟩)) (pkV pk0 hs0)).run prog x2.drew= .ok () (dE x2.drew (w.heap.size+1) pk0 hs0):=aW (D2.o.res.drewN 1) pk0 hs0;have hcd:x2.drew.cell? ⟨g,2,none⟩=some (.int .i64 E2):=(D2.o.cur.1.drewN 1).cell 2;have d2':(dE x2.drew (w.heap.size+1) pk0 hs0).cell? ⟨g,2,none⟩=some (.int .i64 E2):=by
    have hbb:=(D2.o.cur.1.drewN 1).mods (S:=fun z=>z=w.heap.size+1) (Mods.of_grown (cJ (x2.drewN 1) (w.heap.size+1) pk0 hs0) rfl) (by have:=D2.o.lt;omega);exact hbb.cell 2
   have D3:Hid (DS w g p h t a E2 x2.drew):=aa ⟨D2.o.mods.drewN 1,D2.o.pk.drewN 1,D2.o.res.drewN 1,D2.o.cur.drewN 1,D2.o.lt⟩;clear hst
   go_region_law (fail)
   all_goals
    go_wp2;refine av (aI rfl _ rfl (cO D3.o.res _ _)) rfl ?_;rw[HX.o];exact⟨hs0,rfl,⟨Rd.nil _ _ _ _,Rd.nil _ _ _ _,Rd.nil _ _ _ _,Rd.nil _ _ _ _,ag _,ag _,ag _,ag _⟩,(D3.o.put _ _).grown⟩
def TO(g:Nat)(t:ByteArray)(r:Int×List Pr×Nat×Int)(w:World)(e:Ending)(w':World):Prop:=
 ∃A q,e= .returned (.tuple #[.int .i64 r.1,.slice A r.2.1.length q])/\r.2.1.length<=q/\Rd w' w'.heap.size 4 A r.2.1.length (prs r.2.1)/\IC w' g t r.2.2.1 r.2.2.2/\w.grownBy w' (some g)
theorem Rs{g a:Nat}{t:ByteArray}{c e:Int}{r:Int×List Pr×Nat×Int}{w w':World}(h:r=(c,[],a,e))(hc:IC w' g t a e)(hm:w.grownBy w' (some g)):TO g t r w (.returned (.tuple #[.int .i64 c,.slice none 0 0])) w':=by
 subst h;exact⟨none,0,rfl,ac _,Rd.nil _ _ _ _,hc,hm⟩
theorem QV(v k:Int)(g a:Nat)(t:ByteArray)(e:Int)(w:World)(hc:IC w g t a e)(ht:t.size<=140737488351232):
  Calls prog 210 #[.int .i64 v,.int .i64 k,.pointer (some ⟨g,0,none⟩)] w (TO g t (Qu v k t a e) w):=by
 have C0:=aa hc;have HT:=aa ht
 obtain⟨⟨c0,c1,c2⟩,f0,f1,f2⟩:=hc.cells;have HLE:=aa hc.2.1;have HE:Hid (Qu v k t a e=if v=4\/e≠0\/t.size<=a then(0,[],a,e)else(((br t a 0 1:Nat):Int),(rkP v k t a).1,(rkP v k t a).2.1,rkE v k t a)):=aa rfl;clear hc ht
 by_cases h4:v=4
 ·have HX:Hid (Qu v k t a e=(0,[],a,e)):=aa (by rw[HE.o,if_pos (.inl h4)]);have e4:(v==4)=true:=aK.2 h4;clear h4;go_enter func210,ntmps210;go_wp2;go_ret2;exact Rs HX.o C0.o (lz _ _)
 have e4:(v==4)=false:=ar.2 h4
 by_cases he:e=0
 rotate_left
 ·have HX:Hid (Qu v k t a e=(0,[],a,e)):=aa (by rw[HE.o,if_pos (.inr (.inl he))]);have e0:(e !=0)=true:=aA.2 he;clear h4 he;go_enter func210,ntmps210;go_wp2;go_ret2;exact Rs HX.o C0.o (lz _ _)
 subst he
 by_cases ha:t.size<=a
 ·have HX:Hid (Qu v k t a 0=(0,[],a,0)):=aa (by rw[HE.o,if_pos (.inr (.inr ha))]);have d0:(((t.size- a:Nat):Int)==0)=true:=aK.2 (by omega);clear h4 ha;go_enter func210,ntmps210
  go_wp2_with fail
  refine(Qy g a t 0 _ C0.o).mono ?_;rintro e' x0 ⟨rfl,hb⟩;have C1:=aa (C0.o.below hb);have M1:=aa (hJ hb (some g));clear hb
  go_wp2;go_ret2;exact Rs HX.o C1.o M1.o
 have HX:Hid (Qu v k t a 0=(((br t a 0 1:Nat):Int),(rkP v k t a).1,(rkP v k t a).2.1,rkE v k t a)):=aa (by rw[HE.o,ae (by rintro (x| x| x);exact h4 x;exact x rfl;exact ha x)]);have d0:(((t.size- a:Nat):Int)==0)=false:=ar.2 (by omega);have HTK:Hid (aH t a 0 1=(t.extract a (a+1),a+1,0)):=aa (dZ (k:=1) (by omega));have HNB:=aa (iV t a 0);have HRE:Hid (rkE v k t a=if(rkP v k t a).2.2=0/\t.size<=(rkP v k t a).2.1/\Ia v k (br t a 0 1:Nat) (rkP v k t a).1≠t.extract a t.size then 5 else(rkP v k t a).2.2):=aa rfl;have HPE:Hid (rkP v k t a=if a+1<t.size then QK v k t (a+1) 0 else([],a+1,0)):=aa rfl;have HPG:=aa (Sv (v:=v) (k:=k) (a:=a) HT.o);clear h4 HE;go_enter func210,ntmps210
 go_wp2_with fail
 refine(Qy g a t 0 _ C0.o).mono ?_;rintro e' x0 ⟨rfl,hb⟩;have C1:=aa (C0.o.below hb);have M1:=aa (hJ hb (some g));clear hb c0 c1 c2 f0 f1 f2
 go_wp2_with fail
 refine(QZ g a t 0 _ C1.o).mono ?_;rintro e' x1 ⟨rfl,hb⟩;have C2:=aa (C1.o.below hb);have M2:=aa (M1.o.trans (hJ hb (some g)));clear hb
 obtain⟨U,hU⟩:∃U,t.extract a t.size=U:=⟨_,rfl⟩;rw[hU]at HRE⊢;clear hU
 go_wp2_with fail
 refine(Qz g a t 0 1 _ C2.o (by decide)).mono ?_;rintro e' x2 ⟨rfl,hcu,hm⟩;rw[HTK.o]at hcu;have C3:=aa hcu;have M3:=aa (M2.o.trans hm);clear hcu hm
 generalize br t a 0 1=m at*;have hwm:IntKind.i64.wrap (m:Int)=(m:Int):=by rw[aQ];have:=HNB.o;omega
 have HRDO:Hid (∀ {A:Option Addr} {l:List Pr} {a2:Nat} {e2:Int} (y y':World),Rd y y.heap.size 4 A l.length (prs l)->IC y g t a2 e2->y.grownBy y' (some g)->Rd y' y'.heap.size 4 A l.length (prs l)):=aa (fun y y' hr hcu hm=>(hr.other hcu.1 (Io _ _ _) hm (ac _)).wider hm.size)
 by_cases h1:a+1<t.size
 ·have hp1:0<t.size- (a+1):=by omega
  have HP2:Hid (rkP v k t a=QK v k t (a+1) 0):=aa (by rw[HPE.o,if_pos h1]);clear h1
  go_wp2_with fail
  refine(Qy g (a+1) t 0 _ C3.o).mono ?_;rintro e' x3 ⟨rfl,hb⟩;have C4:=aa (C3.o.below hb);have M4:=aa (M3.o.trans (hJ hb (some g)));clear hb
  go_wp2_with fail
  refine(QD v k g (a+1) t 0 _ C4.o HT.o).mono ?_;rintro e' x4 ⟨A,q,rfl,hlc,hr,hcu,hm⟩;rw[<-HP2.o]at hlc hr hcu⊢;generalize rkP v k t a=R at*;obtain⟨l,a2,e2⟩:=R;simp only at HX HRE HPG hlc hr hcu⊢;have C5:=aa hcu;have M5:=aa (M4.o.trans hm);have HCAP:=aa hlc;have HRD:=aa hr
  have HLEN:Hid (l.length=l.length):=aa rfl;clear hcu hm hlc hr;obtain⟨⟨c0,c1,c2⟩,f0,f1,f2⟩:=C5.o.cells
  by_cases he2:e2=0
  rotate_left
  ·have e0:(e2==0)=false:=ar.2 he2;have HXX:Hid (Qu v k t a 0=((m:Int),l,a2,e2)):=aa (by rw[HX.o,HRE.o,ae (fun y=>he2 y.1)]);clear he2;go_wp2;go_ret2;rw[HXX.o];exact⟨A,q,rfl,HCAP.o,HRD.o,C5.o,M5.o⟩
  subst he2
  by_cases hle:t.size<=a2
  rotate_left
  ·have dl:(((t.size- a2:Nat):Int)==0)=false:=ar.2 (by omega);have HXX:Hid (Qu v k t a 0=((m:Int),l,a2,0)):=aa (by rw[HX.o,HRE.o,ae (fun y=>hle y.2.1)]);clear hle
   go_wp2_with fail
   refine(Qy g a2 t 0 _ C5.o).mono ?_;rintro e' y0 ⟨rfl,hb⟩;have CA:=aa (C5.o.below hb);have MA:=aa (M5.o.trans (hJ hb (some g)));have RA:=aa ((HRD.o.below hb).wider hb.size);clear hb c0 c1 c2 f0 f1 f2
   go_wp2;go_ret2;rw[HXX.o];exact⟨A,q,rfl,HCAP.o,RA.o,CA.o,MA.o⟩
  have dl:(((t.size- a2:Nat):Int)==0)=true:=aK.2 (by omega);have HLE2:=aa hle;clear hle
  go_wp2_with fail
  refine(Qy g a2 t 0 _ C5.o).mono ?_;rintro e' y0 ⟨rfl,hb⟩;have CA:=aa (C5.o.below hb);have MA:=aa (M5.o.trans (hJ hb (some g)));have RA:=aa ((HRD.o.below hb).wider hb.size);clear hb c0 c1 c2 f0 f1 f2
  go_wp2_with fail
  refine(JD v k m l _ rfl ⟨by omega,by have:=HNB.o;omega⟩ HPG.o.1 A q _ RA.o (by have:=HPG.o.2;omega) HCAP.o).mono ?_;rintro e' y1 ⟨rfl,hb⟩;have CB:=aa (CA.o.below hb);have MB:=aa (MA.o.trans (hJ hb (some g)));have RB:=aa ((RA.o.below hb).wider hb.size);clear hb
  obtain⟨V,hV⟩:∃V,Ia v k m l=V:=⟨_,rfl⟩;rw[hV]at HRE⊢;clear hV
  by_cases hvu:V=U
  ·have x1:(V.toList==U.toList)=true:=by rw[hvu];simp
   have HXX:Hid (Qu v k t a 0=((m:Int),l,a2,0)):=aa (by rw[HX.o,HRE.o,ae (fun y=>y.2.2 hvu)]);clear hvu;go_wp2;go_ret2;rw[HXX.o];exact⟨A,q,rfl,HCAP.o,RB.o,CB.o,MB.o⟩
  ·have x1:(V.toList==U.toList)=false:=ar.2 (fun y=>hvu ((toList_inj _ _).1 y));have HXX:Hid (Qu v k t a 0=((m:Int),l,a2,5)):=aa (by rw[HX.o,HRE.o,if_pos (by simp;exact⟨HLE2.o,hvu⟩)]);clear hvu
   go_wp2_with fail
   refine(Qv g a2 t 0 5 _ CB.o).mono ?_;rintro e' y2 ⟨rfl,hcu,hm⟩;rw[if_pos rfl]at hcu;have CC:=aa hcu;have MC:=aa (MB.o.trans hm);have RC':=aa ((HRDO.o y1 y2 RB.o CB.o hm));clear hcu hm
   go_wp2;go_ret2;rw[HXX.o];exact⟨A,q,rfl,HCAP.o,RC'.o,CC.o,MC.o⟩
 ·have hp1:¬0<t.size- (a+1):=by omega
  have HP2:Hid (rkP v k t a=([],a+1,0)):=aa (by rw[HPE.o,ae h1]);clear h1
  go_wp2_with fail
  refine(Qy g (a+1) t 0 _ C3.o).mono ?_;rintro e' x3 ⟨rfl,hb⟩;have C5:=aa (C3.o.below hb);have M5:=aa (M3.o.trans (hJ hb (some g)));clear hb
  rw[HP2.o]at HX HRE HPG;simp only at HX HRE HPG;obtain⟨a2,ha2⟩:∃a2,a+1=a2:=⟨_,rfl⟩;rw[ha2]at HX HRE C5;have HCAP:Hid (([]:List Pr).length<=0):=aa (ac _);have HRD:Hid (Rd x3 x3.heap.size 4 none ([]:List Pr).length (prs [])):=aa (Rd.nil _ _ _ _);have HLEN:Hid (([]:List Pr).length=0):=aa rfl;clear ha2;obtain⟨⟨c0,c1,c2⟩,f0,f1,f2⟩:=C5.o.cells
  by_cases hle:t.size<=a2
  rotate_left
  ·have dl:(((t.size- a2:Nat):Int)==0)=false:=ar.2 (by omega);have HXX:Hid (Qu v k t a 0=((m:Int),[],a2,0)):=aa (by rw[HX.o,HRE.o,ae (fun y=>hle y.2.1)]);clear hle
   go_wp2_with fail
   refine(Qy g a2 t 0 _ C5.o).mono ?_;rintro e' y0 ⟨rfl,hb⟩;have CA:=aa (C5.o.below hb);have MA:=aa (M5.o.trans (hJ hb (some g)));have RA:=aa ((HRD.o.below hb).wider hb.size);clear hb c0 c1 c2 f0 f1 f2
   go_wp2;go_ret2;rw[HXX.o];exact⟨none,0,rfl,HCAP.o,RA.o,CA.o,MA.o⟩
  have dl:(((t.size- a2:Nat):Int)==0)=true:=aK.2 (by omega);have HLE2:=aa hle;clear hle
  go_wp2_with fail
  refine(Qy g a2 t 0 _ C5.o).mono ?_;rintro e' y0 ⟨rfl,hb⟩;have CA:=aa (C5.o.below hb);have MA:=aa (M5.o.trans (hJ hb (some g)));have RA:=aa ((HRD.o.below hb).wider hb.size);clear hb c0 c1 c2 f0 f1 f2
  go_wp2_with fail
  refine(JD v k m [] _ rfl ⟨by omega,by have:=HNB.o;omega⟩ HPG.o.1 none 0 _ RA.o (by have:=HPG.o.2;omega) HCAP.o).mono ?_;rintro e' y1 ⟨rfl,hb⟩;have CB:=aa (CA.o.below hb);have MB:=aa (MA.o.trans (hJ hb (some g)));have RB:=aa ((RA.o.below hb).wider hb.size);clear hb
  obtain⟨V,hV⟩:∃V,Ia v k m []=V:=⟨_,rfl⟩;rw[hV]at HRE⊢;clear hV
  by_cases hvu:V=U
  ·have x1:(V.toList==U.toList)=true:=by rw[hvu];simp
   have HXX:Hid (Qu v k t a 0=((m:Int),[],a2,0)):=aa (by rw[HX.o,HRE.o,ae (fun y=>y.2.2 hvu)]);clear hvu;go_wp2;go_ret2;rw[HXX.o];exact⟨none,0,rfl,HCAP.o,RB.o,CB.o,MB.o⟩
  ·have x1:(V.toList==U.toList)=false:=ar.2 (fun y=>hvu ((toList_inj _ _).1 y));have HXX:Hid (Qu v k t a 0=((m:Int),[],a2,5)):=aa (by rw[HX.o,HRE.o,if_pos (by simp;exact⟨HLE2.o,hvu⟩)]);clear hvu
   go_wp2_with fail
   refine(Qv g a2 t 0 5 _ CB.o).mono ?_;rintro e' y2 ⟨rfl,hcu,hm⟩;rw[if_pos rfl]at hcu;have CC:=aa hcu;have MC:=aa (MB.o.trans hm);have RC':=aa ((HRDO.o y1 y2 RB.o CB.o hm));clear hcu hm
   go_wp2;go_ret2;rw[HXX.o];exact⟨none,0,rfl,HCAP.o,RC'.o,CC.o,MC.o⟩
end
end Go.Proofs.YtbdgkkmbnahgiaaGreatDoor
