/- Parts: MReaA, MReaB. -/
import Derived.Test.YtafoknnjekegkaaGreatDoorLqG0MKit
import Derived.RegionTactic
set_option maxRecDepth 10000
set_option maxHeartbeats 8000000
namespace Go.Proofs.YtafoknnjekegkaaGreatDoor
open Go.RowKit Go.Proofs.Tryz
variable {W:Nat->Nat}
section
@[reducible] def Yr(l:List Nat):List Value:=l.map λc:Nat=>Value.int .i64 (c:Int)
def ab1(W:Nat->Nat):Array Value:=#[.int .u64 (W 0),.int .u64 (W 1),.int .u64 (W 2),.int .u64 (W 3)]
theorem fw(W:Nat->Nat):ab1 W= #[.int .u64 (W 0),.int .u64 (W 1),.int .u64 (W 2),.int .u64 (W 3)]:=rfl
def kX(W:Nat->Nat)(c:Nat):Nat->Nat:=λi=>if i=c/ 64 then W i ||| 2^ (c% 64)else W i
theorem tT(W:Nat->Nat)(c:Nat)(h:c<256):(ab1 W)[c/ 64]? =some (.int .u64 (W (c/ 64))):=by
 obtain h| h| h| h:c/ 64=0\/c/ 64=1\/c/ 64=2\/c/ 64=3:=by omega
 all_goals rw[h];rfl
def Wok(W:Nat->Nat):Prop:=∀i,W i<18446744073709551616
theorem Dz(h:Wok W)(c:Nat):Wok (kX W c):=by
 intro i;unfold kX;split
 ·exact Nat.or_lt_two_pow (n:=64) (h i) (YU (Nat.pow_lt_pow_right (by omega) (iI c (by omega):c% 64<64)) (ac _))
 ·exact h i
theorem vX(W:Nat->Nat)(c:Nat)(hc:c<256):(ab1 W).setIfInBounds (c/ 64) (.int .u64 ((W (c/ 64) ||| 2^ (c% 64):Nat):Int))=ab1 (kX W c):=by
 obtain h| h| h| h:c/ 64=0\/c/ 64=1\/c/ 64=2\/c/ 64=3:=by omega
 all_goals
  rw[h];simp[ab1,kX,h]
theorem qA(l:List Nat):∀ {W:Nat->Nat},Wok W->Wok (l.foldl kX W):=by
 induction l with
 | nil=>intro W h;exact h
 | cons c l ih=>intro W h;exact ih (Dz h c)
theorem zI(h:Wok W)(c:Nat):bits BinOp.or IntKind.u64 (↑(W (c/ 64))) (IntKind.u64.wrap (2^ (c% 64)))=((W (c/ 64) ||| 2^ (c% 64):Nat):Int):=by
 have a:(2:Nat) ^ (c% 64)<18446744073709551616:=YU (Nat.pow_lt_pow_right (by omega) (iI c (by omega):c% 64<64)) (ac _);have e:IntKind.u64.wrap ((2:Int) ^ (c% 64))=((2^ (c% 64):Nat):Int):=by
  rw[iZ];have:((2:Int) ^ (c% 64))=((2^ (c% 64):Nat):Int):=by simp
  rw[this];have b:((2^ (c% 64):Nat):Int)<((18446744073709551616:Nat):Int):=Int.ofNat_lt.2 a;have d:(0:Int)<=((2^ (c% 64):Nat):Int):=Int.natCast_nonneg _;generalize ((2^ (c% 64):Nat):Int)=z at*;omega
 rw[e,u64_or_nat _ _ (h _) a]
theorem oY{l:List Nat}{k:Nat}(h:k<l.length)(W:Nat->Nat):(l.take (k+1)).foldl kX W=kX ((l.take k).foldl kX W) l[k]:=by
 rw[fE h,List.foldl_append];rfl
theorem tR(W:Nat->Nat)(A:Option Addr)(l:List Nat)(cap:Nat)(w:abP)(hW:Wok W)(hl:∀c∈l,c<256)(hn:l.length<=1000)
  (hr:Rd w w.heap.size 1 A l.length (Yr l)):
  abR 303 #[.agg (ab1 W),.slice A l.length cap] w (.agg (ab1 (l.foldl kX W))):=by
 have y:=aa hW;have z:=aa hl;clear hW hl
 go_enter func303,ntmps303;go_wp2
 go_loopw [9] (λi wr=>∃k:Nat,k<=l.length/\i= .int .i64 k/\Bk wr w.heap.size 233 (ab1 ((l.take k).foldl kX W))/\Bk wr (w.heap.size+1) 233 #[.int .u64 0,.int .u64 0,.int .u64 0,.int .u64 0]/\abQ w wr) (λi _=>l.length- (intOf i).toNat)
 case atStart=>
  refine⟨0,ag _,rfl,?_,?_,?_⟩
  ·simpa using (Bk.fresh w 233 (ab1 W)).alloc _
  ·simpa using Bk.fresh (w.alloc (.cells (ab1 W) 233)) 233 _
  ·exact((aq _ _).alloc (ac _) _).alloc (by simp) _
 case round=>
  obtain⟨k,M,rfl,b,a,d⟩:=hrel;have j:=aa b;have m:=aa a
  by_cases g:k<l.length
  ·obtain⟨I,N,u,rfl,F,r,t⟩:=(hr.below d).at1 g;have s:u= .int .i64 (l[k]:Nat):=by simpa [g]using r.symm
   subst s;have f:l[k]<256:=z.o _ (iY g);have h:=aa (qA (l.take k) y.o);have x:=aa (oY g W);generalize (l.take k).foldl kX W=W' at*;have H:wr.cell? ⟨w.heap.size,l[k] / 64,none⟩=some (.int .u64 (W' (l[k] / 64))):=by
    rw[b.cell,tT _ _ f]
   have G:=b.free (l[k] / 64);generalize l[k]=c at*;clear b a hr r;go_wp2;go_roundw
   case rel=>
    rw[zI h.o];refine⟨k+1,by omega,by go_num,?_,m.o.other (by simp) _,d.setCell (by simp) _⟩;rw[x.o,<-vX _ _ f];exact j.o.put _ _
   case measure=>simp[intOf];omega
  ·have:k=l.length:=by omega
   subst this;rw[GK]at*;have B:=b.cell 0;have C:=b.cell 1;have D:=b.cell 2;have E:=b.cell 3;have n:=a.cell 0;have o:=a.cell 1;have p:=a.cell 2;have q:=a.cell 3;have J:=a.free 0;have f1:=a.free 1;have K:=a.free 2;have L:=a.free 3;simp[ab1]at B C D E n o p q;clear b a;go_wp2;exact abZ (v:=.agg (ab1 (l.foldl kX W))) (by simp[results,Tryz.results303,go_sem,ab1,n,o,p,q]) rfl ⟨rfl,(((d.setCell (by simp) _).setCell (by simp) _).setCell (by simp) _).setCell (by simp) _⟩
def jr(W:Nat->Nat)(a n:Nat):Nat->Nat:=(List.range' a n).foldl kX W
theorem yZ(W:Nat->Nat)(a n:Nat):jr W a (n+1)=kX (jr W a n) (a+n):=by
 unfold jr;rw[List.range'_concat,List.foldl_append];simp
theorem mQ(h:Wok W)(a n:Nat):Wok (jr W a n):=qA _ h
theorem AO(W:Nat->Nat)(a b:Int)(w:abP)(hW:Wok W)(h0:0<=a)(hab:a<=b)(hb:b<256):
  abR 304 #[.agg (ab1 W),.int .i64 a,.int .i64 b] w (.agg (ab1 (jr W a.toNat (b+1- a).toNat))):=by
 have D:=aa hW;clear hW
 go_enter func304,ntmps304;go_wp2
 go_loopw [7] (λi wr=>∃k:Nat,a+k<=b+1/\i= .int .i64 (a+k)/\Bk wr w.heap.size 233 (ab1 (jr W a.toNat k))/\Bk wr (w.heap.size+1) 233 #[.int .u64 0,.int .u64 0,.int .u64 0,.int .u64 0]/\abQ w wr) (λi _=>(b+1- intOf i).toNat)
 case atStart=>
  refine⟨0,by omega,by simp,?_,?_,?_⟩
  ·simpa [jr]using (Bk.fresh w 233 (ab1 W)).alloc _
  ·simpa using Bk.fresh (w.alloc (.cells (ab1 W) 233)) 233 _
  ·exact((aq _ _).alloc (ac _) _).alloc (by simp) _
 case round=>
  obtain⟨k,K,rfl,m,j,l⟩:=hrel;have f:=aa m;have g:=aa j
  obtain⟨⟨p,q,r,s⟩,z,f1,A,B⟩:=m.four;obtain⟨⟨t,u,x,y⟩,E,F,G,H⟩:=j.four;have L:w.heap.size+1<wr.heap.size:=j.lt;by_cases J:a+k<=b
  ·clear m j;go_wp2_with fail;refine(tR (jr W a.toNat k) (some ⟨wr.heap.size,0,none⟩) [(a+k).toNat] 1 _ (mQ D.o _ _) ?_ (by simp) ?_).mono ?_
   ·intro c I;simp at I;omega
   ·have e:((a+k).toNat:Int)=a+k:=by omega
    simp only[Yr,fI,gC,e]
    simpa using Rd.fresh wr #[_] _
   rintro e M ⟨rfl,h⟩;have C:Hid ([(a+k).toNat].foldl kX (jr W a.toNat k)=jr W a.toNat (k+1)):=aa (by rw[yZ];simp[show(a+k).toNat=a.toNat+k by omega]);have d:=((f.o.alloc _).below h (by simp;omega));have n:=((g.o.alloc _).below h (by simp;omega));have o:=aa ((l.alloc (by omega) _).trans (h.mono (by simp;omega)));clear h p q r s t u x y z f1 A B E F G H f g;generalize [(a+k).toNat].foldl kX (jr W a.toNat k)=W2 at*;obtain⟨⟨p,q,r,s⟩,z,f1,A,B⟩:=d.four;have f:=aa d;have g:=aa n
   rw[show ab1 W2= #[.int .u64 (W2 0),.int .u64 (W2 1),.int .u64 (W2 2),.int .u64 (W2 3)]from rfl];clear d n;go_wp2;go_roundw
   case rel=>
    refine⟨k+1,by omega,by simp;omega,?_,g.o.put_other (by omega),cD o.out (by omega) _ _ _ _⟩;rw[<-C.o];exact f.o.put_four
   case measure=>simp[intOf];omega
  ·go_wp2;obtain rfl:k=(b+1- a).toNat:=by omega
   exact abZ (v:=.agg (ab1 (jr W a.toNat (b+1- a).toNat))) (by simp[results,Tryz.results304,go_sem,ab1,t,u,x,y]) rfl ⟨rfl,cD l (by simp) _ _ _ _⟩
theorem pg(W:Nat->Nat)(a b:Int)(na n:Nat)(w:abP)(hW:Wok W)(ha:a=na)(hn:b+1=a+n)(hab:a<=b)(hb:b<256):
  abR 304 #[.agg (ab1 W),.int .i64 a,.int .i64 b] w (.agg (ab1 (jr W na n))):=by
 have h:=AO W a b w hW (by omega) hab hb;rwa[show a.toNat=na by omega,show(b+1- a).toNat=n by omega]at h
def oD:Nat->Nat:=λ_=>0
theorem pJ:Wok oD:=λ_=>by unfold oD;omega
def wl(l:List Nat):Nat->Nat:=l.foldl kX oD
theorem Fk(l:List Nat):l.foldl kX oD=wl l:=rfl
theorem ZO(l:List Nat):Wok (wl l):=qA _ pJ
attribute [irreducible] jr wl
theorem fV(A:Option Addr)(l:List Nat)(cap:Nat)(w:abP)(hl:∀c∈l,c<256)(hn:l.length<=1000)(hr:Rd w w.heap.size 1 A l.length (Yr l)):
  abR 303 #[.agg #[.int .u64 0,.int .u64 0,.int .u64 0,.int .u64 0],.slice A l.length cap] w (.agg (ab1 (wl l))):=
 by rw[<-Fk];exact tR oD A l cap w pJ hl hn hr
def codes(kind:Int):Nat->Nat:=
 if kind=2 then jr (jr (wl [0,140,144,149,151,159]) 128 11) 153 5
 else if kind=4\/kind=5 then wl [0,16,128,131,135,144,145,151,153]
 else if kind=6\/kind=7 then wl [0,146]
 else if kind=9 then wl [0,1,2,128,131,135,143,145,151,158,161,162]
 else if kind=11 then wl [0,17,128,131,135,143,145]
 else if kind=14 then jr (jr (wl [0,4,135,137,139,141,142,143,144]) 128 4) 147 16
 else if kind=15 then wl [0,24,25]
 else oD
end
theorem EW(w:abP):
  abR 273 #[.int .i64 2] w (.agg (ab1 (codes 2))):=by
 have o:=(Bk.fresh w 233 #[.int .u64 0,.int .u64 0,.int .u64 0,.int .u64 0]).alloc (.cells #[.int .u64 0,.int .u64 0,.int .u64 0,.int .u64 0] 233);have p:Bk ((w.alloc (.cells #[.int .u64 0,.int .u64 0,.int .u64 0,.int .u64 0] 233)).alloc (.cells #[.int .u64 0,.int .u64 0,.int .u64 0,.int .u64 0] 233)) (w.heap.size+1) 233 #[.int .u64 0,.int .u64 0,.int .u64 0,.int .u64 0]:=by simpa using Bk.fresh (w.alloc (.cells #[.int .u64 0,.int .u64 0,.int .u64 0,.int .u64 0] 233)) 233 #[.int .u64 0,.int .u64 0,.int .u64 0,.int .u64 0]
 have j:=((aq w.heap.size w).alloc (ac _) (.cells #[.int .u64 0,.int .u64 0,.int .u64 0,.int .u64 0] 233)).alloc (by simp) (.cells #[.int .u64 0,.int .u64 0,.int .u64 0,.int .u64 0] 233);have m:=aa o;have n:=aa p;have r:=aa j;clear o p j
 go_enter func273,ntmps273;go_wp2_with fail;refine Yg (fV _ [0,140,144,149,151,159] _ _ (by decide) (by decide) (Rd.lit _ _ _ (by simp) (by simp) rfl)) λK a=>?_;have c:=(m.o.alloc _).below a (by simp;omega);have d:=(n.o.alloc _).below a (by simp);have b:=(r.o.alloc (by simp;omega) _).trans (a.mono (by simp;omega));clear a;have f:=aa c;have h:=aa d;have i:=aa b
 clear c d b;go_wp2_with fail;refine Yg (pg (wl [0,140,144,149,151,159]) 128 138 128 11 _ (ZO _) (by omega) (by omega) (by omega) (by omega)) λL a=>?_;have c:=Yh f.o a;have d:=Yh h.o a;have b:=i.o.trans (a.mono (by have:=f.o.lt;omega));clear a f h i;have f:=aa c;have h:=aa d;have i:=aa b
 clear c d b;go_wp2_with fail;refine Yg (pg (jr (wl [0,140,144,149,151,159]) 128 11) 153 157 153 5 _ (mQ (ZO _) _ _) (by omega) (by omega) (by omega) (by omega)) λM a=>?_;have c:=Yh f.o a;have d:=Yh h.o a;have b:=i.o.trans (a.mono (by have:=f.o.lt;omega));clear a f h i;obtain⟨C,l⟩:∃C,C=codes 2:=⟨_,rfl⟩;rw[show jr (jr (wl [0,140,144,149,151,159]) 128 11) 153 5=C by rw[l];simp[codes],fw C];have q:=aa l;clear l
 obtain⟨⟨y,z,A,B⟩,D,f1,E,F⟩:=d.four;obtain⟨⟨s,t,u,x⟩,G,H,I,J⟩:=c.four;have k:=aa (cD (cD b (g:=w.heap.size+1) (by omega) (.int .u64 (C 0)) (.int .u64 (C 1)) (.int .u64 (C 2)) (.int .u64 (C 3))) (g:=w.heap.size) (by omega) (.int .u64 (C 0)) (.int .u64 (C 1)) (.int .u64 (C 2)) (.int .u64 (C 3)));clear b c d;go_wp2;exact abZ (v:=.agg (ab1 C)) (by simp[results,Tryz.results273,go_sem,ab1,s,t,u,x]) rfl ⟨by rw[q.o],k.out⟩
theorem EV(w:abP):
  abR 273 #[.int .i64 4] w (.agg (ab1 (codes 4))):=by
 have l:=(Bk.fresh w 233 #[.int .u64 0,.int .u64 0,.int .u64 0,.int .u64 0]).alloc (.cells #[.int .u64 0,.int .u64 0,.int .u64 0,.int .u64 0] 233);have m:Bk ((w.alloc (.cells #[.int .u64 0,.int .u64 0,.int .u64 0,.int .u64 0] 233)).alloc (.cells #[.int .u64 0,.int .u64 0,.int .u64 0,.int .u64 0] 233)) (w.heap.size+1) 233 #[.int .u64 0,.int .u64 0,.int .u64 0,.int .u64 0]:=by simpa using Bk.fresh (w.alloc (.cells #[.int .u64 0,.int .u64 0,.int .u64 0,.int .u64 0] 233)) 233 #[.int .u64 0,.int .u64 0,.int .u64 0,.int .u64 0]
 have c:=((aq w.heap.size w).alloc (ac _) (.cells #[.int .u64 0,.int .u64 0,.int .u64 0,.int .u64 0] 233)).alloc (by simp) (.cells #[.int .u64 0,.int .u64 0,.int .u64 0,.int .u64 0] 233);have j:=aa l;have k:=aa m;have o:=aa c;clear l m c
 go_enter func273,ntmps273;go_wp2_with fail;refine Yg (fV _ [0,16,128,131,135,144,145,151,153] _ _ (by decide) (by decide) (Rd.lit _ _ _ (by simp) (by simp) rfl)) λH a=>?_;have d:=(j.o.alloc _).below a (by simp;omega);have f:=(k.o.alloc _).below a (by simp);have b:=(o.o.alloc (by simp;omega) _).trans (a.mono (by simp;omega));clear a;obtain⟨C,i⟩:∃C,C=codes 4:=⟨_,rfl⟩;rw[show wl [0,16,128,131,135,144,145,151,153]=C by rw[i];simp[codes],fw C];have n:=aa i;clear i
 obtain⟨⟨t,u,x,y⟩,z,f1,A,B⟩:=f.four;obtain⟨⟨p,q,r,s⟩,D,E,F,G⟩:=d.four;have h:=aa (cD (cD b (g:=w.heap.size+1) (by omega) (.int .u64 (C 0)) (.int .u64 (C 1)) (.int .u64 (C 2)) (.int .u64 (C 3))) (g:=w.heap.size) (by omega) (.int .u64 (C 0)) (.int .u64 (C 1)) (.int .u64 (C 2)) (.int .u64 (C 3)));clear b d f;go_wp2;exact abZ (v:=.agg (ab1 C)) (by simp[results,Tryz.results273,go_sem,ab1,p,q,r,s]) rfl ⟨by rw[n.o],h.out⟩
theorem EU(w:abP):
  abR 273 #[.int .i64 5] w (.agg (ab1 (codes 5))):=by
 have l:=(Bk.fresh w 233 #[.int .u64 0,.int .u64 0,.int .u64 0,.int .u64 0]).alloc (.cells #[.int .u64 0,.int .u64 0,.int .u64 0,.int .u64 0] 233);have m:Bk ((w.alloc (.cells #[.int .u64 0,.int .u64 0,.int .u64 0,.int .u64 0] 233)).alloc (.cells #[.int .u64 0,.int .u64 0,.int .u64 0,.int .u64 0] 233)) (w.heap.size+1) 233 #[.int .u64 0,.int .u64 0,.int .u64 0,.int .u64 0]:=by simpa using Bk.fresh (w.alloc (.cells #[.int .u64 0,.int .u64 0,.int .u64 0,.int .u64 0] 233)) 233 #[.int .u64 0,.int .u64 0,.int .u64 0,.int .u64 0]
 have c:=((aq w.heap.size w).alloc (ac _) (.cells #[.int .u64 0,.int .u64 0,.int .u64 0,.int .u64 0] 233)).alloc (by simp) (.cells #[.int .u64 0,.int .u64 0,.int .u64 0,.int .u64 0] 233);have j:=aa l;have k:=aa m;have o:=aa c;clear l m c
 go_enter func273,ntmps273;go_wp2_with fail;refine Yg (fV _ [0,16,128,131,135,144,145,151,153] _ _ (by decide) (by decide) (Rd.lit _ _ _ (by simp) (by simp) rfl)) λH a=>?_;have d:=(j.o.alloc _).below a (by simp;omega);have f:=(k.o.alloc _).below a (by simp);have b:=(o.o.alloc (by simp;omega) _).trans (a.mono (by simp;omega));clear a;obtain⟨C,i⟩:∃C,C=codes 5:=⟨_,rfl⟩;rw[show wl [0,16,128,131,135,144,145,151,153]=C by rw[i];simp[codes],fw C];have n:=aa i;clear i
 obtain⟨⟨t,u,x,y⟩,z,f1,A,B⟩:=f.four;obtain⟨⟨p,q,r,s⟩,D,E,F,G⟩:=d.four;have h:=aa (cD (cD b (g:=w.heap.size+1) (by omega) (.int .u64 (C 0)) (.int .u64 (C 1)) (.int .u64 (C 2)) (.int .u64 (C 3))) (g:=w.heap.size) (by omega) (.int .u64 (C 0)) (.int .u64 (C 1)) (.int .u64 (C 2)) (.int .u64 (C 3)));clear b d f;go_wp2;exact abZ (v:=.agg (ab1 C)) (by simp[results,Tryz.results273,go_sem,ab1,p,q,r,s]) rfl ⟨by rw[n.o],h.out⟩
theorem ET(w:abP):
  abR 273 #[.int .i64 6] w (.agg (ab1 (codes 6))):=by
 have l:=(Bk.fresh w 233 #[.int .u64 0,.int .u64 0,.int .u64 0,.int .u64 0]).alloc (.cells #[.int .u64 0,.int .u64 0,.int .u64 0,.int .u64 0] 233);have m:Bk ((w.alloc (.cells #[.int .u64 0,.int .u64 0,.int .u64 0,.int .u64 0] 233)).alloc (.cells #[.int .u64 0,.int .u64 0,.int .u64 0,.int .u64 0] 233)) (w.heap.size+1) 233 #[.int .u64 0,.int .u64 0,.int .u64 0,.int .u64 0]:=by simpa using Bk.fresh (w.alloc (.cells #[.int .u64 0,.int .u64 0,.int .u64 0,.int .u64 0] 233)) 233 #[.int .u64 0,.int .u64 0,.int .u64 0,.int .u64 0]
 have c:=((aq w.heap.size w).alloc (ac _) (.cells #[.int .u64 0,.int .u64 0,.int .u64 0,.int .u64 0] 233)).alloc (by simp) (.cells #[.int .u64 0,.int .u64 0,.int .u64 0,.int .u64 0] 233);have j:=aa l;have k:=aa m;have o:=aa c;clear l m c
 go_enter func273,ntmps273;go_wp2_with fail;refine Yg (fV _ [0,146] _ _ (by decide) (by decide) (Rd.lit _ _ _ (by simp) (by simp) rfl)) λH a=>?_;have d:=(j.o.alloc _).below a (by simp;omega);have f:=(k.o.alloc _).below a (by simp);have b:=(o.o.alloc (by simp;omega) _).trans (a.mono (by simp;omega));clear a;obtain⟨C,i⟩:∃C,C=codes 6:=⟨_,rfl⟩;rw[show wl [0,146]=C by rw[i];simp[codes],fw C];have n:=aa i;clear i
 obtain⟨⟨t,u,x,y⟩,z,f1,A,B⟩:=f.four;obtain⟨⟨p,q,r,s⟩,D,E,F,G⟩:=d.four;have h:=aa (cD (cD b (g:=w.heap.size+1) (by omega) (.int .u64 (C 0)) (.int .u64 (C 1)) (.int .u64 (C 2)) (.int .u64 (C 3))) (g:=w.heap.size) (by omega) (.int .u64 (C 0)) (.int .u64 (C 1)) (.int .u64 (C 2)) (.int .u64 (C 3)));clear b d f;go_wp2;exact abZ (v:=.agg (ab1 C)) (by simp[results,Tryz.results273,go_sem,ab1,p,q,r,s]) rfl ⟨by rw[n.o],h.out⟩
theorem abj(w:abP):
  abR 273 #[.int .i64 7] w (.agg (ab1 (codes 7))):=by
 have l:=(Bk.fresh w 233 #[.int .u64 0,.int .u64 0,.int .u64 0,.int .u64 0]).alloc (.cells #[.int .u64 0,.int .u64 0,.int .u64 0,.int .u64 0] 233);have m:Bk ((w.alloc (.cells #[.int .u64 0,.int .u64 0,.int .u64 0,.int .u64 0] 233)).alloc (.cells #[.int .u64 0,.int .u64 0,.int .u64 0,.int .u64 0] 233)) (w.heap.size+1) 233 #[.int .u64 0,.int .u64 0,.int .u64 0,.int .u64 0]:=by simpa using Bk.fresh (w.alloc (.cells #[.int .u64 0,.int .u64 0,.int .u64 0,.int .u64 0] 233)) 233 #[.int .u64 0,.int .u64 0,.int .u64 0,.int .u64 0]
 have c:=((aq w.heap.size w).alloc (ac _) (.cells #[.int .u64 0,.int .u64 0,.int .u64 0,.int .u64 0] 233)).alloc (by simp) (.cells #[.int .u64 0,.int .u64 0,.int .u64 0,.int .u64 0] 233);have j:=aa l;have k:=aa m;have o:=aa c;clear l m c
 go_enter func273,ntmps273;go_wp2_with fail;refine Yg (fV _ [0,146] _ _ (by decide) (by decide) (Rd.lit _ _ _ (by simp) (by simp) rfl)) λH a=>?_;have d:=(j.o.alloc _).below a (by simp;omega);have f:=(k.o.alloc _).below a (by simp);have b:=(o.o.alloc (by simp;omega) _).trans (a.mono (by simp;omega));clear a;obtain⟨C,i⟩:∃C,C=codes 7:=⟨_,rfl⟩;rw[show wl [0,146]=C by rw[i];simp[codes],fw C];have n:=aa i;clear i
 obtain⟨⟨t,u,x,y⟩,z,f1,A,B⟩:=f.four;obtain⟨⟨p,q,r,s⟩,D,E,F,G⟩:=d.four;have h:=aa (cD (cD b (g:=w.heap.size+1) (by omega) (.int .u64 (C 0)) (.int .u64 (C 1)) (.int .u64 (C 2)) (.int .u64 (C 3))) (g:=w.heap.size) (by omega) (.int .u64 (C 0)) (.int .u64 (C 1)) (.int .u64 (C 2)) (.int .u64 (C 3)));clear b d f;go_wp2;exact abZ (v:=.agg (ab1 C)) (by simp[results,Tryz.results273,go_sem,ab1,p,q,r,s]) rfl ⟨by rw[n.o],h.out⟩
theorem ER(w:abP):
  abR 273 #[.int .i64 9] w (.agg (ab1 (codes 9))):=by
 have l:=(Bk.fresh w 233 #[.int .u64 0,.int .u64 0,.int .u64 0,.int .u64 0]).alloc (.cells #[.int .u64 0,.int .u64 0,.int .u64 0,.int .u64 0] 233);have m:Bk ((w.alloc (.cells #[.int .u64 0,.int .u64 0,.int .u64 0,.int .u64 0] 233)).alloc (.cells #[.int .u64 0,.int .u64 0,.int .u64 0,.int .u64 0] 233)) (w.heap.size+1) 233 #[.int .u64 0,.int .u64 0,.int .u64 0,.int .u64 0]:=by simpa using Bk.fresh (w.alloc (.cells #[.int .u64 0,.int .u64 0,.int .u64 0,.int .u64 0] 233)) 233 #[.int .u64 0,.int .u64 0,.int .u64 0,.int .u64 0]
 have c:=((aq w.heap.size w).alloc (ac _) (.cells #[.int .u64 0,.int .u64 0,.int .u64 0,.int .u64 0] 233)).alloc (by simp) (.cells #[.int .u64 0,.int .u64 0,.int .u64 0,.int .u64 0] 233);have j:=aa l;have k:=aa m;have o:=aa c;clear l m c
 go_enter func273,ntmps273;go_wp2_with fail;refine Yg (fV _ [0,1,2,128,131,135,143,145,151,158,161,162] _ _ (by decide) (by decide) (Rd.lit _ _ _ (by simp) (by simp) rfl)) λH a=>?_;have d:=(j.o.alloc _).below a (by simp;omega);have f:=(k.o.alloc _).below a (by simp);have b:=(o.o.alloc (by simp;omega) _).trans (a.mono (by simp;omega));clear a;obtain⟨C,i⟩:∃C,C=codes 9:=⟨_,rfl⟩;rw[show wl [0,1,2,128,131,135,143,145,151,158,161,162]=C by rw[i];simp[codes],fw C];have n:=aa i;clear i
 obtain⟨⟨t,u,x,y⟩,z,f1,A,B⟩:=f.four;obtain⟨⟨p,q,r,s⟩,D,E,F,G⟩:=d.four;have h:=aa (cD (cD b (g:=w.heap.size+1) (by omega) (.int .u64 (C 0)) (.int .u64 (C 1)) (.int .u64 (C 2)) (.int .u64 (C 3))) (g:=w.heap.size) (by omega) (.int .u64 (C 0)) (.int .u64 (C 1)) (.int .u64 (C 2)) (.int .u64 (C 3)));clear b d f;go_wp2;exact abZ (v:=.agg (ab1 C)) (by simp[results,Tryz.results273,go_sem,ab1,p,q,r,s]) rfl ⟨by rw[n.o],h.out⟩
theorem Dj(w:abP):
  abR 273 #[.int .i64 11] w (.agg (ab1 (codes 11))):=by
 have l:=(Bk.fresh w 233 #[.int .u64 0,.int .u64 0,.int .u64 0,.int .u64 0]).alloc (.cells #[.int .u64 0,.int .u64 0,.int .u64 0,.int .u64 0] 233);have m:Bk ((w.alloc (.cells #[.int .u64 0,.int .u64 0,.int .u64 0,.int .u64 0] 233)).alloc (.cells #[.int .u64 0,.int .u64 0,.int .u64 0,.int .u64 0] 233)) (w.heap.size+1) 233 #[.int .u64 0,.int .u64 0,.int .u64 0,.int .u64 0]:=by simpa using Bk.fresh (w.alloc (.cells #[.int .u64 0,.int .u64 0,.int .u64 0,.int .u64 0] 233)) 233 #[.int .u64 0,.int .u64 0,.int .u64 0,.int .u64 0]
 have c:=((aq w.heap.size w).alloc (ac _) (.cells #[.int .u64 0,.int .u64 0,.int .u64 0,.int .u64 0] 233)).alloc (by simp) (.cells #[.int .u64 0,.int .u64 0,.int .u64 0,.int .u64 0] 233);have j:=aa l;have k:=aa m;have o:=aa c;clear l m c
 go_enter func273,ntmps273;go_wp2_with fail;refine Yg (fV _ [0,17,128,131,135,143,145] _ _ (by decide) (by decide) (Rd.lit _ _ _ (by simp) (by simp) rfl)) λH a=>?_;have d:=(j.o.alloc _).below a (by simp;omega);have f:=(k.o.alloc _).below a (by simp);have b:=(o.o.alloc (by simp;omega) _).trans (a.mono (by simp;omega));clear a;obtain⟨C,i⟩:∃C,C=codes 11:=⟨_,rfl⟩;rw[show wl [0,17,128,131,135,143,145]=C by rw[i];simp[codes],fw C];have n:=aa i;clear i
 obtain⟨⟨t,u,x,y⟩,z,f1,A,B⟩:=f.four;obtain⟨⟨p,q,r,s⟩,D,E,F,G⟩:=d.four;have h:=aa (cD (cD b (g:=w.heap.size+1) (by omega) (.int .u64 (C 0)) (.int .u64 (C 1)) (.int .u64 (C 2)) (.int .u64 (C 3))) (g:=w.heap.size) (by omega) (.int .u64 (C 0)) (.int .u64 (C 1)) (.int .u64 (C 2)) (.int .u64 (C 3)));clear b d f;go_wp2;exact abZ (v:=.agg (ab1 C)) (by simp[results,Tryz.results273,go_sem,ab1,p,q,r,s]) rfl ⟨by rw[n.o],h.out⟩
theorem Di(w:abP):
  abR 273 #[.int .i64 14] w (.agg (ab1 (codes 14))):=by
 have o:=(Bk.fresh w 233 #[.int .u64 0,.int .u64 0,.int .u64 0,.int .u64 0]).alloc (.cells #[.int .u64 0,.int .u64 0,.int .u64 0,.int .u64 0] 233);have p:Bk ((w.alloc (.cells #[.int .u64 0,.int .u64 0,.int .u64 0,.int .u64 0] 233)).alloc (.cells #[.int .u64 0,.int .u64 0,.int .u64 0,.int .u64 0] 233)) (w.heap.size+1) 233 #[.int .u64 0,.int .u64 0,.int .u64 0,.int .u64 0]:=by simpa using Bk.fresh (w.alloc (.cells #[.int .u64 0,.int .u64 0,.int .u64 0,.int .u64 0] 233)) 233 #[.int .u64 0,.int .u64 0,.int .u64 0,.int .u64 0]
 have j:=((aq w.heap.size w).alloc (ac _) (.cells #[.int .u64 0,.int .u64 0,.int .u64 0,.int .u64 0] 233)).alloc (by simp) (.cells #[.int .u64 0,.int .u64 0,.int .u64 0,.int .u64 0] 233);have m:=aa o;have n:=aa p;have r:=aa j;clear o p j
 go_enter func273,ntmps273;go_wp2_with fail;refine Yg (fV _ [0,4,135,137,139,141,142,143,144] _ _ (by decide) (by decide) (Rd.lit _ _ _ (by simp) (by simp) rfl)) λK a=>?_;have c:=(m.o.alloc _).below a (by simp;omega);have d:=(n.o.alloc _).below a (by simp);have b:=(r.o.alloc (by simp;omega) _).trans (a.mono (by simp;omega));clear a;have f:=aa c;have h:=aa d;have i:=aa b
 clear c d b;go_wp2_with fail;refine Yg (pg (wl [0,4,135,137,139,141,142,143,144]) 128 131 128 4 _ (ZO _) (by omega) (by omega) (by omega) (by omega)) λL a=>?_;have c:=Yh f.o a;have d:=Yh h.o a;have b:=i.o.trans (a.mono (by have:=f.o.lt;omega));clear a f h i;have f:=aa c;have h:=aa d;have i:=aa b
 clear c d b;go_wp2_with fail;refine Yg (pg (jr (wl [0,4,135,137,139,141,142,143,144]) 128 4) 147 162 147 16 _ (mQ (ZO _) _ _) (by omega) (by omega) (by omega) (by omega)) λM a=>?_;have c:=Yh f.o a;have d:=Yh h.o a;have b:=i.o.trans (a.mono (by have:=f.o.lt;omega));clear a f h i;obtain⟨C,l⟩:∃C,C=codes 14:=⟨_,rfl⟩;rw[show jr (jr (wl [0,4,135,137,139,141,142,143,144]) 128 4) 147 16=C by rw[l];simp[codes],fw C];have q:=aa l;clear l
 obtain⟨⟨y,z,A,B⟩,D,f1,E,F⟩:=d.four;obtain⟨⟨s,t,u,x⟩,G,H,I,J⟩:=c.four;have k:=aa (cD (cD b (g:=w.heap.size+1) (by omega) (.int .u64 (C 0)) (.int .u64 (C 1)) (.int .u64 (C 2)) (.int .u64 (C 3))) (g:=w.heap.size) (by omega) (.int .u64 (C 0)) (.int .u64 (C 1)) (.int .u64 (C 2)) (.int .u64 (C 3)));clear b c d;go_wp2;exact abZ (v:=.agg (ab1 C)) (by simp[results,Tryz.results273,go_sem,ab1,s,t,u,x]) rfl ⟨by rw[q.o],k.out⟩
theorem Dh(w:abP):
  abR 273 #[.int .i64 15] w (.agg (ab1 (codes 15))):=by
 have l:=(Bk.fresh w 233 #[.int .u64 0,.int .u64 0,.int .u64 0,.int .u64 0]).alloc (.cells #[.int .u64 0,.int .u64 0,.int .u64 0,.int .u64 0] 233);have m:Bk ((w.alloc (.cells #[.int .u64 0,.int .u64 0,.int .u64 0,.int .u64 0] 233)).alloc (.cells #[.int .u64 0,.int .u64 0,.int .u64 0,.int .u64 0] 233)) (w.heap.size+1) 233 #[.int .u64 0,.int .u64 0,.int .u64 0,.int .u64 0]:=by simpa using Bk.fresh (w.alloc (.cells #[.int .u64 0,.int .u64 0,.int .u64 0,.int .u64 0] 233)) 233 #[.int .u64 0,.int .u64 0,.int .u64 0,.int .u64 0]
 have c:=((aq w.heap.size w).alloc (ac _) (.cells #[.int .u64 0,.int .u64 0,.int .u64 0,.int .u64 0] 233)).alloc (by simp) (.cells #[.int .u64 0,.int .u64 0,.int .u64 0,.int .u64 0] 233);have j:=aa l;have k:=aa m;have o:=aa c;clear l m c
 go_enter func273,ntmps273;go_wp2_with fail;refine Yg (fV _ [0,24,25] _ _ (by decide) (by decide) (Rd.lit _ _ _ (by simp) (by simp) rfl)) λH a=>?_;have d:=(j.o.alloc _).below a (by simp;omega);have f:=(k.o.alloc _).below a (by simp);have b:=(o.o.alloc (by simp;omega) _).trans (a.mono (by simp;omega));clear a;obtain⟨C,i⟩:∃C,C=codes 15:=⟨_,rfl⟩;rw[show wl [0,24,25]=C by rw[i];simp[codes],fw C];have n:=aa i;clear i
 obtain⟨⟨t,u,x,y⟩,z,f1,A,B⟩:=f.four;obtain⟨⟨p,q,r,s⟩,D,E,F,G⟩:=d.four;have h:=aa (cD (cD b (g:=w.heap.size+1) (by omega) (.int .u64 (C 0)) (.int .u64 (C 1)) (.int .u64 (C 2)) (.int .u64 (C 3))) (g:=w.heap.size) (by omega) (.int .u64 (C 0)) (.int .u64 (C 1)) (.int .u64 (C 2)) (.int .u64 (C 3)));clear b d f;go_wp2;exact abZ (v:=.agg (ab1 C)) (by simp[results,Tryz.results273,go_sem,ab1,p,q,r,s]) rfl ⟨by rw[n.o],h.out⟩
theorem Ar(kind:Int)(w:abP):
  abR 273 #[.int .i64 kind] w (.agg (ab1 (codes kind))):=by
 by_cases d:kind=2
 ·subst d;exact EW w
 by_cases f:kind=4
 ·subst f;exact EV w
 by_cases g:kind=5
 ·subst g;exact EU w
 by_cases h:kind=6
 ·subst h;exact ET w
 by_cases i:kind=7
 ·subst i;exact abj w
 by_cases j:kind=9
 ·subst j;exact ER w
 by_cases a:kind=11
 ·subst a;exact Dj w
 by_cases b:kind=14
 ·subst b;exact Di w
 by_cases c:kind=15
 ·subst c;exact Dh w
 go_enter func273,ntmps273;go_wp2;exact abZ (v:=.agg (ab1 oD)) (by simp[results,Tryz.results273,go_sem,ab1,oD]) rfl ⟨by simp[codes, *],((aq w.heap.size w).alloc (ac _) _).alloc (by simp) _⟩
def tn(W:Nat->Nat)(c:Int):Bool:=decide (0<=c)&&decide (c<256)&&(W (c.toNat/ 64)).testBit (c.toNat% 64)
theorem qQ(x k:Nat)(hx:x<18446744073709551616):(bits BinOp.and IntKind.u64 (↑x/ 2^ k) 1==1)=x.testBit k:=by
 have e:((x:Int) / 2^ k)=((x/ 2^ k:Nat):Int):=by simp
 have a:x/ 2^ k<18446744073709551616:=Nat.lt_of_le_of_lt (Nat.div_le_self _ _) hx;rw[e,show(1:Int)=((1:Nat):Int)from rfl,u64_and_nat _ _ a (by omega),Nat.and_one_is_mod,Nat.testBit_eq_decide_div_mod_eq];generalize x/ 2^ k% 2=z;rw[eG,aK,cH];omega
theorem EE(W:Nat->Nat)(c:Int)(w:abP)(hW:Wok W):
  abR 274 #[.agg (ab1 W),.int .i64 c] w (.bool (tn W c)):=by
 have i:=aa hW;clear hW
 by_cases f:0<=c
 ·by_cases g:c<256
  ·obtain⟨n,rfl⟩:=JL f;have j:n<256:=by omega
   have d:=Bk.fresh w 233 (ab1 W);have h:(w.alloc (.cells (ab1 W) 233)).cell? ⟨w.heap.size,n/ 64,none⟩=some (.int .u64 (W (n/ 64))):=by
    rw[d.cell,tT _ _ j]
   clear d;have a:tn W n=(bits BinOp.and IntKind.u64 (↑(W (n/ 64)) / 2^ (n% 64)) 1==1):=by
    rw[qQ _ _ (i.o _)];simp[tn,f,g]
   have b:=aa a;clear a
   go_enter func274,ntmps274;go_wp2;go_ret;exact⟨by rw[b.o];rfl,(aq _ _).alloc (ac _) _⟩
  ·have a:tn W c=false:=by simp[tn,g]
   have b:=aa a;clear a
   go_enter func274,ntmps274;go_wp2;go_ret;exact⟨by rw[b.o];rfl,(aq _ _).alloc (ac _) _⟩
 ·have a:tn W c=false:=by simp[tn,f]
  have b:=aa a;clear a
  go_enter func274,ntmps274;go_wp2;go_ret;exact⟨by rw[b.o];rfl,(aq _ _).alloc (ac _) _⟩
def may(kind c:Int):Bool:=tn (codes kind) c
theorem Dg(kind:Int):Wok (codes kind):=by
 unfold codes
 repeat' split
 all_goals first| exact pJ| exact ZO _| exact mQ (mQ (ZO _) _ _) _ _
theorem m7(kind c:Int)(w:abP):
  abR 217 #[.int .i64 kind,.int .i64 c] w (.bool (may kind c)):=by
 go_enter func217,ntmps217;go_wp2_with fail;refine Yg (Ar kind w) λd a=>?_;go_wp2_with fail;refine Yg (EE (codes kind) c d (Dg kind)) λf b=>?_;go_wp2;go_ret;exact⟨rfl,Yf a b⟩
def ww(c:Int):Bool:=decide (0<=c)&&decide (c<=5)
theorem wv(c:Int)(w:abP):
  abT 266 #[.int .i64 c] w (.bool (ww c)):=by
 go_enter func266,ntmps266;go_wp2
 all_goals
  go_ret;refine⟨?_,rfl⟩
  (try simp[ww])<;>omega
def tq(c:Int):Bool:=(c==0) || (c==1) || (c==2) || (c==128)
theorem Af(c:Int)(w:abP):
  abT 288 #[.int .i64 c] w (.bool (tq c)):=by
 go_enter func288,ntmps288;go_wp2
 all_goals
  go_ret
  simp_all[tq]
def to5(c:Int):Int×Bool:=
 if c=0 then(0,true)else if c=1 then(132,true)else if c=2 then(133,true)else if c=3 then(136,true)
 else if c=4 then(134,true)else if c=5 then(135,true)else(0,false)
def old(c:Int):Option Nat:=(List.range 6).find? λk=>(to5 k).1==c
theorem Yp{kind c:Int}(h:may kind c=true):0<=c/\c<256:=by
 unfold may tn at h;simp only[eh,cH]at h;exact h.1
theorem Cw:(prog.info? 3).map (λi=>(i.zero,i.size,i.bytes))=some (some (.int .i64 0),1,8):=by kernel_rfl
def MU(kind:Int)(k:Nat):List Nat:=(List.range k).filter λc=>may kind (c:Int)
def Qk(kind:Int):List Nat:=MU kind 256
theorem NP(kind:Int)(k:Nat):(MU kind k).length<=k:=by
 have:=WJ (λc:Nat=>may kind (c:Int)) (List.range k)
 simpa [MU]using this
theorem Ny(c:Int):tn oD c=false:=by simp[tn,oD]
theorem Nu{kind:Int}(h:¬(kind=2\/kind=4\/kind=5\/kind=6\/kind=7\/kind=9\/kind=11\/kind=14\/kind=15))(c:Int):may kind c=false:=by
 have:codes kind=oD:=by
  unfold codes;rw[Fl (by omega),Fl (by omega),Fl (by omega),Fl (by omega),Fl (by omega),Fl (by omega),Fl (by omega)]
 unfold may;rw[this,Ny]
theorem PP(kind a:Int):((Qk kind).any λc=>((c:Int)==a))=may kind a:=by
 rw[eG,List.any_eq_true];constructor
 ·rintro ⟨c,b,d⟩;have:(c:Int)=a:=by simpa using d
  subst this;exact by simpa using (WV.1 b).2
 ·intro h;have e:=Yp h;refine⟨a.toNat,WV.2 ⟨by simp;omega,?_⟩,by simp;omega⟩;rw[show((a.toNat:Nat):Int)=a by omega];exact h
theorem KQ{l:List Nat}{k:Nat}(h:k<l.length)(a:Int):((l.take (k+1)).any λc=>((c:Int)==a))=(((l.take k).any λc=>((c:Int)==a)) || ((l[k]:Int)==a)):=by
 rw[fE h,List.any_append];simp
theorem Mm(a:Nat)(k:Nat):Yr (List.range' a (k+1))=Yr (List.range' a k)++[.int .i64 ((a:Int)+k)]:=by
 rw[List.range'_concat];simp[Yr]
theorem JH(v:Value)(n:Nat)(xs:List Value)(a b:Int)(na k:Nat)(base:Nat)(w:abP)(hown:w.ownsRow base 3 1 v n xs)(hbase:base<=w.heap.size)(hn:n<=1000)(ha:a=na)(hk:b+1=a+k)(hb:b<256):
  Calls prog 298 #[v,.int .i64 a,.int .i64 b] w λe w'=>∃v',e= .returned v'/\w'.ownsRow base 3 1 v' (n+k) (xs++Yr (List.range' na k))/\Below base w w':=by
 have q:=aa hown;clear hown
 subst ha;have l:=aa hk;clear hk
 go_enter func298,ntmps298;go_wp2
 go_loopw [0,1] (λv i wr=>∃j:Nat,j<=k/\i= .int .i64 ((na:Int)+j)/\wr.ownsRow base 3 1 v (n+j) (xs++Yr (List.range' na j))/\Below base w wr) (λ_ i _=>(b+1- intOf i).toNat)
 case atStart=>exact⟨0,by omega,by simp,by simpa using q.o,aq _ _⟩
 case round=>
  obtain⟨j,y,rfl,hown,c⟩:=hrel;have f:=aa hown;clear hown
  have z:=c.size;by_cases x:j<k
  ·have s:(na:Int)+j<=b:=by have:=l.o;omega
   have r:=aa (Mm na j);go_wp2_with (at_builtin;go_loud (refine kF _ rfl (.tmp 12) (.tmp 14) 27 rfl base 3 (.int .i64 0) 1 8 underlying27 Cw rfl (by decide) u0 _ _ rfl (f.o.alloc _) _ _ 1 1 [.int .i64 ((na:Int)+j)] rfl (Rd.lit _ _ _ rfl (ed _) rfl) (by intro u o;simp at o;subst o;rfl) (by unfold maxLen;omega) (by omega) (by simp;omega) ?_);intro v' p d h m);have R:p.ownsRow base 3 1 v' (n+(j+1)) (xs++Yr (List.range' na (j+1)))/\Below base w p:=by
    refine⟨?_,kz (c.alloc (by omega) _) h (by simp;omega) (λg t=>(cX f.o g t).1)⟩;rw[r.o,<-List.append_assoc];exact d
   clear d h m;go_wp2;go_roundw
   case rel=>exact⟨j+1,by omega,by simp;omega,R.1,R.2⟩
   case measure=>have:=l.o;simp[intOf];omega
  ·obtain rfl:j=k:=by omega
   have s:b<(na:Int)+j:=by have:=l.o;omega
   go_wp2;go_ret;exact⟨_,rfl,f.o,c⟩
def IA(kind:Int):List Nat:=
 if kind=2 then [0]++List.range' 128 11++[140,144,149,151]++List.range' 153 5++[159]
 else if kind=4\/kind=5 then [0,16,128,131,135,144,145,151,153]
 else if kind=6\/kind=7 then [0,146]
 else if kind=9 then [0,1,2,128,131,135,143,145,151,158,161,162]
 else if kind=11 then [0,17,128,131,135,143,145]
 else if kind=14 then [0,4]++List.range' 128 4++[135,137,139,141,142,143,144]++List.range' 147 16
 else if kind=15 then [0,24,25]
 else []
theorem KY(kind:Int):IA kind=Qk kind:=by
 by_cases a:kind=2\/kind=4\/kind=5\/kind=6\/kind=7\/kind=9\/kind=11\/kind=14\/kind=15
 ·obtain rfl| rfl| rfl| rfl| rfl| rfl| rfl| rfl| rfl:=a
  all_goals decide+kernel
 ·have b:IA kind=[]:=by
   unfold IA;rw[Fl (by omega),Fl (by omega),Fl (by omega),Fl (by omega),Fl (by omega),Fl (by omega),Fl (by omega)]
  rw[b];unfold Qk MU;rw[eq_comm,List.filter_eq_nil_iff];intro c _;rw[Nu a];simp
def Ho(kind:Int)(w:abP)(e:Ending)(w':abP):Prop:=
 ∃v,e= .returned v/\w'.ownsRow w.heap.size 3 1 v (IA kind).length (Yr (IA kind))/\abQ w w'
theorem IR(w:abP)(kind:Int)(l:List Nat)(h:IA kind=l)(cs:Array Value)(hcs:cs.toList=Yr l)(n:Nat)(hn:n=l.length)(hm:n<=1000):
  Ho kind w (.returned (.slice (some ⟨w.heap.size,0,none⟩) n n)) (w.alloc (.cells cs 3)):=by
 subst h hn;refine⟨_,rfl,?_,(aq _ _).alloc (ac _) _⟩;rw[<-hcs];exact World.ownsRow_lit w cs _ (ac _) (by unfold maxLen;omega) (by have:=congrArg List.length hcs;simpa [Yr]using this)
theorem Oc(w:abP):Calls prog 263 #[.int .i64 4] w (Ho 4 w):=by
 go_enter func263,ntmps263;go_wp2;go_ret;exact IR w 4 [0,16,128,131,135,144,145,151,153] (by decide) _ rfl _ rfl (by decide)
theorem Ob(w:abP):Calls prog 263 #[.int .i64 5] w (Ho 5 w):=by
 go_enter func263,ntmps263;go_wp2;go_ret;exact IR w 5 [0,16,128,131,135,144,145,151,153] (by decide) _ rfl _ rfl (by decide)
theorem Oa(w:abP):Calls prog 263 #[.int .i64 6] w (Ho 6 w):=by
 go_enter func263,ntmps263;go_wp2;go_ret;exact IR w 6 [0,146] (by decide) _ rfl _ rfl (by decide)
theorem NZ(w:abP):Calls prog 263 #[.int .i64 7] w (Ho 7 w):=by
 go_enter func263,ntmps263;go_wp2;go_ret;exact IR w 7 [0,146] (by decide) _ rfl _ rfl (by decide)
theorem NY(w:abP):Calls prog 263 #[.int .i64 9] w (Ho 9 w):=by
 go_enter func263,ntmps263;go_wp2;go_ret;exact IR w 9 [0,1,2,128,131,135,143,145,151,158,161,162] (by decide) _ rfl _ rfl (by decide)
theorem Ni(w:abP):Calls prog 263 #[.int .i64 11] w (Ho 11 w):=by
 go_enter func263,ntmps263;go_wp2;go_ret;exact IR w 11 [0,17,128,131,135,143,145] (by decide) _ rfl _ rfl (by decide)
theorem Ng(w:abP):Calls prog 263 #[.int .i64 15] w (Ho 15 w):=by
 go_enter func263,ntmps263;go_wp2;go_ret;exact IR w 15 [0,24,25] (by decide) _ rfl _ rfl (by decide)
theorem Od(w:abP):Calls prog 263 #[.int .i64 2] w (Ho 2 w):=by
 go_enter func263,ntmps263;go_wp2_with fail;refine(JH _ 1 (Yr [0]) 128 138 128 11 w.heap.size _ (World.ownsRow_lit w _ 1 (ac _) (by decide) rfl) (by simp) (by omega) rfl rfl (by omega)).mono ?_;rintro e z ⟨r,rfl,a,k⟩;have c:=((aq w.heap.size w).alloc (ac _) (.cells #[.int .i64 0] 3)).trans k;have u:=c.size;go_wp2_with (first| fail| (at_builtin;refine kF _ rfl (.tmp 10) (.tmp 11) 27 rfl w.heap.size 3 (.int .i64 0) 1 8 underlying27 Cw rfl (by decide) r _ _ rfl (a.alloc _) _ _ 4 4 (Yr [140,144,149,151]) rfl (Rd.lit _ _ _ rfl (ed _) rfl) (Kr _) (by unfold maxLen;omega) (by omega) (by simp;omega) ?_;intro s A h m o));have d:=kz (c.alloc (by omega) _) m (by simp;omega) (λg q=>(cX a g q).1);have v:=d.size;clear m o a k;refine(JH s _ _ 153 157 153 5 w.heap.size _ h (by omega) (by omega) rfl rfl (by omega)).mono ?_;rintro e B ⟨t,rfl,b,l⟩;have f:=d.trans l;have x:=f.size;clear h l;go_wp2_with (first| fail| (at_builtin;refine kF _ rfl (.tmp 14) (.tmp 15) 27 rfl w.heap.size 3 (.int .i64 0) 1 8 underlying27 Cw rfl (by decide) t _ _ rfl (b.alloc _) _ _ 1 1 (Yr [159]) rfl (Rd.lit _ _ _ rfl (ed _) rfl) (Kr _) (by unfold maxLen;omega) (by omega) (by simp;omega) ?_;intro y C j n p));have i:=kz (f.alloc (by omega) _) n (by simp;omega) (λg q=>(cX b g q).1);clear n p b;go_wp2;go_ret;exact⟨_,rfl,j,i⟩
theorem Nh(w:abP):Calls prog 263 #[.int .i64 14] w (Ho 14 w):=by
 go_enter func263,ntmps263;go_wp2_with fail;refine(JH _ 2 (Yr [0,4]) 128 131 128 4 w.heap.size _ (World.ownsRow_lit w _ 2 (ac _) (by decide) rfl) (by simp) (by omega) rfl rfl (by omega)).mono ?_;rintro e s ⟨n,rfl,a,i⟩;have b:=((aq w.heap.size w).alloc (ac _) (.cells #[.int .i64 0,.int .i64 4] 3)).trans i;have p:=b.size;go_wp2_with (first| fail| (at_builtin;refine kF _ rfl (.tmp 35) (.tmp 36) 27 rfl w.heap.size 3 (.int .i64 0) 1 8 underlying27 Cw rfl (by decide) n _ _ rfl (a.alloc _) _ _ 7 7 (Yr [135,137,139,141,142,143,144]) rfl (Rd.lit _ _ _ rfl (ed _) rfl) (Kr _) (by unfold maxLen;omega) (by omega) (by simp;omega) ?_;intro o t d k l));have c:=kz (b.alloc (by omega) _) k (by simp;omega) (λg m=>(cX a g m).1);have q:=c.size;clear k l a i;refine(JH o _ _ 147 162 147 16 w.heap.size _ d (by omega) (by omega) rfl rfl (by omega)).mono ?_;rintro e u ⟨r,rfl,h,j⟩;have f:=c.trans j;clear d j;go_wp2;go_ret;exact⟨_,rfl,h,f⟩
theorem Ml(kind:Int)(w:abP):Calls prog 263 #[.int .i64 kind] w (Ho kind w):=by
 by_cases e:kind=2
 ·subst e;exact Od w
 by_cases f:kind=4
 ·subst f;exact Oc w
 by_cases g:kind=5
 ·subst g;exact Ob w
 by_cases h:kind=6
 ·subst h;exact Oa w
 by_cases i:kind=7
 ·subst i;exact NZ w
 by_cases j:kind=9
 ·subst j;exact NY w
 by_cases a:kind=11
 ·subst a;exact Ni w
 by_cases b:kind=14
 ·subst b;exact Nh w
 by_cases c:kind=15
 ·subst c;exact Ng w
 have d:Hid (IA kind=[]):=by
  show _=_;unfold IA;rw[Fl (by omega),Fl (by omega),Fl (by omega),Fl (by omega),Fl (by omega),Fl (by omega),Fl (by omega)]
 go_enter func263,ntmps263;go_wp2;go_ret;refine⟨_,rfl,?_,aq _ _⟩;rw[d.o];exact dD _ _ _ _
theorem Ht(kind c:Int)(w:abP):
  abR 198 #[.int .i64 kind,.int .i64 c] w (.bool (may kind c)):=by
 have b:=PP kind c;rw[<-KY]at b;have p:=aa b;clear b
 go_enter func198,ntmps198;go_wp2_with fail;refine(Ml _ _).mono ?_;rintro e B ⟨v,rfl,g,h⟩;obtain⟨A,I,rfl,J,m⟩:=jK g;have L:(IA kind).length<=256:=by rw[KY];exact NP kind 256
 clear g;have r:=h.size;generalize IA kind=l at*;go_wp2
 go_loopw [6] (λi wr=>∃k:Nat,k<=l.length/\i= .int .i64 k/\(((l.take k).any λx=>((x:Int)==c))=false)/\abQ B wr) (λi _=>l.length- (intOf i).toNat)
 case atStart=>exact⟨0,by omega,rfl,rfl,aq _ _⟩
 case round=>
  obtain⟨k,K,rfl,j,o⟩:=hrel;have q:=aa j;clear j
  have f:abQ w wr:=h.trans (o.mono r);by_cases d:k<l.length
  ·obtain⟨H,M,u,rfl,G,s,C⟩:=(m.below o).at1 d;have t:u= .int .i64 (l[k]:Nat):=by simpa [d]using s.symm
   subst t;have E:=aa (KQ d c);have D:Hid (l[k]∈l):=iY d;generalize l[k]=z at*;clear s m;cases y:((z:Int)==c)with
   | true=>
     have a:may kind c=true:=by
      rw[<-p.o];exact List.any_eq_true.2 ⟨z,D.o,y⟩
     have n:=aa a;clear a
     go_wp2;go_ret;exact⟨by rw[n.o];rfl,f⟩
   | false=>
     have F:=aa y;go_wp2;go_roundw
     case rel=>exact⟨k+1,by omega,by go_num,by rw[E.o,q.o,F.o];rfl,o⟩
     case measure=>simp[intOf];omega
  ·obtain rfl:k=l.length:=by omega
   have a:may kind c=false:=by rw[<-p.o];have:=q.o;rwa[GK]at this
   have n:=aa a;clear a
   go_wp2;go_ret;exact⟨by rw[n.o];rfl,f⟩
theorem KD(c:Int)(w:abP):
  abT 252 #[.int .i64 c] w (.bool (ww c)):=by
 go_enter func252,ntmps252;go_wp2
 all_goals
  go_ret;refine⟨?_,rfl⟩
  (try simp[ww])<;>omega
theorem Lq(c:Int)(w:abP):
  abT 262 #[.int .i64 c] w (.bool (tq c)):=by
 go_enter func262,ntmps262;go_wp2
 all_goals
  go_ret
  simp_all[tq]
