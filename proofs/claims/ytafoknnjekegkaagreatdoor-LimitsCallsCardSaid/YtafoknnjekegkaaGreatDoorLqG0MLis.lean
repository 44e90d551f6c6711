/- Parts: MLis. -/
import Derived.Test.YtafoknnjekegkaaGreatDoorLqG0MPrp
set_option maxRecDepth 10000
set_option maxHeartbeats 8000000
namespace Go.Proofs.YtafoknnjekegkaaGreatDoor
open Go.RowKit Go.Proofs.Tryz
variable {t s:abO}{a k n:Nat}{kind e:Int}{w:abP}
section
abbrev SrT:TypeId:=244
def abV(gc:Nat)(p:Pr):Array Value:=#[.pointer (some ⟨gc,0,none⟩),.int .i64 p.id,.int .u32 p.n,.string p.text,.string p.value]
def Src(w:abP)(gs gc:Nat)(t:abO)(a:Nat)(e:Int)(p:Pr):Prop:=Bk w gs SrT (abV gc p)/\Cur w gc t a e
def two(gs gc:Nat):Nat->Prop:=λi=>i=gs\/i=gc
section
variable {w w':abP} {gs gc a a':Nat} {t:abO} {e e':Int} {p:Pr}
theorem Src.ne(h:Src w gs gc t a e p):gs≠gc:=by
 rintro rfl;have c:=h.1;have b:=h.2.1;unfold Bk at c b;rw[c]at b;simp only[aX,fc]at b;exact absurd b.2.1 (by decide)
theorem Src.cells(h:Src w gs gc t a e p):(w.cell? ⟨gs,0,none⟩=some (.pointer (some ⟨gc,0,none⟩))/\w.cell? ⟨gs,1,none⟩=some (.int .i64 p.id)/\w.cell? ⟨gs,2,none⟩=some (.int .u32 p.n)/\w.cell? ⟨gs,3,none⟩=some (.string p.text)/\w.cell? ⟨gs,4,none⟩=some (.string p.value))/\
  w.frozen? ⟨gs,1,none⟩=false/\w.frozen? ⟨gs,2,none⟩=false/\w.frozen? ⟨gs,3,none⟩=false/\w.frozen? ⟨gs,4,none⟩=false:=
 ⟨⟨h.1.cell 0,h.1.cell 1,h.1.cell 2,h.1.cell 3,h.1.cell 4⟩,h.1.free 1,h.1.free 2,h.1.free 3,h.1.free 4⟩
theorem Src.below(h:Src w gs gc t a e p)(hb:abQ w w'):Src w' gs gc t a e p:=⟨h.1.below hb h.1.lt,h.2.below hb⟩
theorem Src.cur(h:Src w gs gc t a e p)(hc:Cur w' gc t a' e')(hm:w.grownBy w' (some gc)):Src w' gs gc t a' e' p:=⟨(hm.block gs h.1.lt (λx=>h.ne (by cases x;rfl))).trans h.1,hc⟩
theorem Src.set(h:Src w gs gc t a e p)(i:Nat)(u:Value)(q:Pr)(hq:(abV gc p).setIfInBounds i u=abV gc q):Src (w.setCell ⟨gs,i,none⟩ u) gs gc t a e q:=
 ⟨h.1.upd i u hq,h.2.1.other (Ne.symm h.ne) _,h.2.2⟩
end
def bp(t:abO)(a:Nat)(e n:Int):abO×Nat×Int:=
 if e=0 then(if jQ t a n=true then(t.extract a (a+n.toNat),a+n.toNat,0)else(⟨#[]⟩,a,5))else(⟨#[]⟩,a,e)
theorem mH(t:abO)(a:Nat)(e n:Int)(h:e≠0\/jQ t a n=true):bp t a e n=aH t a e n:=by
 unfold bp aH;rcases h with h| h
 ·rw[Fl h,Fl h]
 ·rw[h];rfl
theorem lr(gs gc a:Nat)(t:abO)(e n:Int)(p:Pr)(w:abP)(h:Src w gs gc t a e p):
  Calls prog 338 #[.pointer (some ⟨gs,0,none⟩),.int .i64 n] w λe' w'=>
   e'= .returned (.string (bp t a e n).1)/\Src w' gs gc t (bp t a e n).2.1 (bp t a e n).2.2 p/\w.grownBy w' (some gc):=by
 have H:=aa h;obtain⟨⟨G,-⟩,-⟩:=h.cells;have E:=h.2.2.1;have F:=h.2.2.2;clear h;by_cases r:e=0
 ·subst r;by_cases l:jQ t a n=true
  ·have k:=aa (mH t a 0 n (.inr l));have q:0<=n/\n<=(t.size:Int) - a:=by simpa [jQ]using l
   have A:decide (n<0)=false:=ah (by omega);have I:decide (((t.size- a:Nat):Int)<n)=false:=ah (by omega);have B:0<=n:=q.1;have C:n<=((t.size- a:Nat):Int):=by omega
   clear l q;go_enter func338,ntmps338;go_wp2_with fail;refine(dG gc a t 0 _ H.o.2).mono ?_;rintro f m ⟨rfl,rfl⟩;go_wp2_with fail;refine Yg (eI gc a t 0 _ H.o.2) λm i=>?_;have v:=aa i;have d:=aa (H.o.below i);clear i
   obtain⟨⟨s,-⟩,-⟩:=d.o.cells;go_wp2_with fail;refine(eo gc a t 0 n _ d.o.2).mono ?_;rintro f y ⟨rfl,c,b⟩;have g:=aa (And.intro (d.o.cur c b) ((Y7 v.o (some gc)).trans b));clear c b;go_wp2;go_ret;rw[k.o];exact⟨rfl,g.o⟩
  ·have k:Hid (bp t a 0 n=(⟨#[]⟩,a,5)):=aa (by unfold bp;rw[if_pos rfl,Fl l]);have z:Hid (aH t a 5 n=(⟨#[]⟩,a,5)):=aa (by unfold aH;rw[Fl (by decide)]);have q:¬(0<=n/\n<=(t.size:Int) - a):=by simpa [jQ]using l
   clear l;by_cases j:n<0
   ·have A:decide (n<0)=true:=au j;clear q;go_enter func338,ntmps338;go_wp2_with fail;refine(dG gc a t 0 _ H.o.2).mono ?_;rintro f m ⟨rfl,rfl⟩;go_wp2_with fail;refine(cB gc a t 0 5 _ H.o.2).mono ?_;rintro f m ⟨rfl,c,b⟩;rw[if_pos rfl]at c;have d:=aa (H.o.cur c b);have x:=aa b;clear c b
    obtain⟨⟨s,-⟩,-⟩:=d.o.cells;go_wp2_with fail;refine(eo gc a t 5 n _ d.o.2).mono ?_;rintro f y ⟨rfl,c,b⟩;have g:=aa (And.intro (d.o.cur c b) (x.o.trans b));clear c b;go_wp2;go_ret;rw[k.o];have o:=g.o;rw[z.o]at o⊢;exact⟨rfl,o⟩
   ·have A:decide (n<0)=false:=ah j;have B:0<=n:=by omega
    have C:((t.size- a:Nat):Int)<n:=by omega
    clear q j;go_enter func338,ntmps338;go_wp2_with fail;refine(dG gc a t 0 _ H.o.2).mono ?_;rintro f m ⟨rfl,rfl⟩;go_wp2_with fail;refine Yg (eI gc a t 0 _ H.o.2) λK i=>?_;have v:=aa i;have u:=aa (H.o.below i);clear i
    obtain⟨⟨s,-⟩,-⟩:=u.o.cells;go_wp2_with fail;refine(cB gc a t 0 5 _ u.o.2).mono ?_;rintro f m ⟨rfl,c,b⟩;rw[if_pos rfl]at c;have d:=aa (u.o.cur c b);have x:=aa b;clear c b
    obtain⟨⟨D,-⟩,-⟩:=d.o.cells;go_wp2_with fail;refine(eo gc a t 5 n _ d.o.2).mono ?_;rintro f y ⟨rfl,c,b⟩;have g:=aa (And.intro (d.o.cur c b) (((Y7 v.o (some gc)).trans x.o).trans b));clear c b;go_wp2;go_ret;rw[k.o];have o:=g.o;rw[z.o]at o⊢;exact⟨rfl,o⟩
 ·have J:(e==0)=false:=ar.2 r;have k:=aa (mH t a e n (.inl r));clear r;go_enter func338,ntmps338;go_wp2_with fail;refine(dG gc a t e _ H.o.2).mono ?_;rintro f m ⟨rfl,rfl⟩;go_wp2_with fail;refine(eo gc a t e n _ H.o.2).mono ?_;rintro f y ⟨rfl,c,b⟩;have g:=aa (And.intro (H.o.cur c b) b);clear c b;go_wp2;go_ret;rw[k.o];exact⟨rfl,g.o⟩
theorem jM(t:abO)(a:Nat)(e n:Int)(k:Nat)(hn:n<=k):(bp t a e n).1.size<=k:=by
 unfold bp;split
 ·split
  ·show(t.extract a (a+n.toNat)).size<=k;rw[aj];omega
  ·exact ag _
 ·exact ag _
theorem kx(l:List UInt8)(k:Nat)(h:l.length<=k)(hk:k<=4):YZ l<4294967296:=by
 have a:=ka l;have b:256^ l.length<=256^ 4:=df (by omega) (by omega);have c:(256:Nat) ^ 4=4294967296:=by decide
 omega
def lO(gs gc:Nat)(t:abO)(a:Nat)(e:Int)(p:Pr)(w:abP)(e':Ending)(w':abP):Prop:=e'= .returned (.tuple #[])/\Src w' gs gc t a e p/\Mods (two gs gc) w w'
theorem Ei(gs gc a:Nat)(t:abO)(e:Int)(p:Pr)(w:abP)(h:Src w gs gc t a e p):
  Calls prog 315 #[.pointer (some ⟨gs,0,none⟩)] w (lO gs gc t (bp t a e 1).2.1 (bp t a e 1).2.2 {p with n:=YZ (ls (bp t a e 1).1)} w):=by
 have H:=aa h;clear h
 have j:=jM t a e 1 1 (by omega);go_enter func315,ntmps315;go_wp2_with fail;refine(lr gs gc a t e 1 p _ H.o).mono ?_;rintro i r ⟨rfl,b,c⟩;go_wp2_with fail;refine(jA _ _ (by omega)).mono ?_;rintro i s ⟨rfl,rfl⟩;have m:=kx (ls (bp t a e 1).1) 1 (by rw[aN];exact j) (by omega);have g:=aa b;have f:=aa c
 obtain⟨⟨-,-,k,-⟩,-,l,-⟩:=b.cells;clear b c;generalize YZ (ls (bp t a e 1).1)=q at*;have o:IntKind.u32.wrap (q:Int)=(q:Int):=by rw[oy];omega
 have d:=aa (g.o.set 2 (.int .u32 q) {p with n:=q} rfl);go_wp2
 go_end0
 exact⟨rfl,d.o,(qb f.o (.inr rfl)).set gs 2 (.inl (.inl rfl)) _⟩
theorem DG(gs gc a:Nat)(t:abO)(e:Int)(p:Pr)(w:abP)(h:Src w gs gc t a e p):
  Calls prog 316 #[.pointer (some ⟨gs,0,none⟩)] w (lO gs gc t (bp t a e 2).2.1 (bp t a e 2).2.2 {p with n:=YZ (ls (bp t a e 2).1)} w):=by
 have H:=aa h;clear h
 have j:=jM t a e 2 2 (by omega);go_enter func316,ntmps316;go_wp2_with fail;refine(lr gs gc a t e 2 p _ H.o).mono ?_;rintro i r ⟨rfl,b,c⟩;go_wp2_with fail;refine(jA _ _ (by omega)).mono ?_;rintro i s ⟨rfl,rfl⟩;have m:=kx (ls (bp t a e 2).1) 2 (by rw[aN];exact j) (by omega);have g:=aa b;have f:=aa c
 obtain⟨⟨-,-,k,-⟩,-,l,-⟩:=b.cells;clear b c;generalize YZ (ls (bp t a e 2).1)=q at*;have o:IntKind.u32.wrap (q:Int)=(q:Int):=by rw[oy];omega
 have d:=aa (g.o.set 2 (.int .u32 q) {p with n:=q} rfl);go_wp2
 go_end0
 exact⟨rfl,d.o,(qb f.o (.inr rfl)).set gs 2 (.inl (.inl rfl)) _⟩
theorem CE(gs gc a:Nat)(t:abO)(e:Int)(p:Pr)(w:abP)(h:Src w gs gc t a e p):
  Calls prog 317 #[.pointer (some ⟨gs,0,none⟩)] w (lO gs gc t (bp t a e 4).2.1 (bp t a e 4).2.2 {p with n:=YZ (ls (bp t a e 4).1)} w):=by
 have H:=aa h;clear h
 have j:=jM t a e 4 4 (by omega);go_enter func317,ntmps317;go_wp2_with fail;refine(lr gs gc a t e 4 p _ H.o).mono ?_;rintro i r ⟨rfl,b,c⟩;go_wp2_with fail;refine(jA _ _ (by omega)).mono ?_;rintro i s ⟨rfl,rfl⟩;have m:=kx (ls (bp t a e 4).1) 4 (by rw[aN];exact j) (by omega);have g:=aa b;have f:=aa c
 obtain⟨⟨-,-,k,-⟩,-,l,-⟩:=b.cells;clear b c;generalize YZ (ls (bp t a e 4).1)=q at*;have o:IntKind.u32.wrap (q:Int)=(q:Int):=by rw[oy];omega
 have d:=aa (g.o.set 2 (.int .u32 q) {p with n:=q} rfl);go_wp2
 go_end0
 exact⟨rfl,d.o,(qb f.o (.inr rfl)).set gs 2 (.inl (.inl rfl)) _⟩
end
theorem Fd:∀(l:List UInt8) (n k:Nat),k<=3->n<2^ (7*k)->(rv l n k).1<268435456
 | [],n,k,_,_=>by simp[rv]
 | b :: l,n,k,hk,hn=>by
   have h1:=uN b hn;rw[rv];split
   ·split
    ·simp
    ·exact Fd l _ _ (by omega) h1
   ·split
    ·simp
    ·have:2^ (7*(k+1))<=2^ 28:=df (by omega) (by omega);have a:(2:Nat) ^ 28=268435456:=by decide
     simp only;omega
theorem pT(l:List UInt8):(YT l).1<268435456:=Fd l 0 0 (by omega) (by simp)
theorem lk(t:abO)(a:Nat):(t.extract a t.size).size=t.size- a:=by rw[aj];omega
theorem ju(t:abO)(a:Nat):ls (t.extract a t.size)=(ls t).drop a:=by
 unfold ls;rw[Lib.extract_data,bt];simp
def mz(t:abO)(a:Nat):Nat×Nat×Int:=
 if(YT ((ls t).drop a)).2.2=0 then((YT ((ls t).drop a)).1,a+(YT ((ls t).drop a)).2.1,0)else((YT ((ls t).drop a)).1,a,5)
theorem AM(gs gc a:Nat)(t:abO)(p:Pr)(w:abP)(h:Src w gs gc t a 0 p):
  Calls prog 318 #[.pointer (some ⟨gs,0,none⟩)] w (lO gs gc t (mz t a).2.1 (mz t a).2.2 {p with n:=(mz t a).1} w):=by
 have H:=aa h;obtain⟨⟨Q,-⟩,-⟩:=h.cells;have O:=h.2.2.1;have P:=h.2.2.2;clear h;have G:=aa (ju t a);have E:=pT ((ls t).drop a);have y:=jH ((ls t).drop a);rw[bU,aN]at y;have o:Hid (mz t a=if(YT ((ls t).drop a)).2.2=0 then((YT ((ls t).drop a)).1,a+(YT ((ls t).drop a)).2.1,0)else((YT ((ls t).drop a)).1,a,5)):=aa rfl;have e:=aa (nO (t.extract a t.size));rw[G.o]at e;generalize YT ((ls t).drop a)=R at*;obtain⟨m,k,x⟩:=R;simp only at E y o e;have U:IntKind.u32.wrap (m:Int)=(m:Int):=by rw[oy];omega
 have v:=lk t a;have u:=aa v;clear v
 by_cases s:x=0
 ·have B:Hid (mz t a=(m,a+k,0)):=aa (by rw[o.o,if_pos s]);have A:Hid (aH t a 0 k=(t.extract a (a+k),a+k,0)):=aa (by
   unfold aH;rw[if_pos rfl,if_pos (by simp[jQ];omega)];simp)
  subst s;clear o;go_enter func318,ntmps318;go_wp2_with fail;refine Yg (jG gc a t 0 _ H.o.2) λL b=>?_;have z:=aa (H.o.below b);have j:=aa b;clear b
  go_wp2_with fail;refine Yg (e.o _ (by have:=u.o;omega)) λM b=>?_;have f:=aa (z.o.below b);have l:=aa (Yf j.o b);clear b
  obtain⟨⟨D,-,J,-⟩,-,K,-⟩:=f.o.cells;have i:=aa (f.o.set 2 (.int .u32 m) {p with n:=m} rfl);go_wp2_with fail;refine(eo gc a t 0 k _ i.o.2).mono ?_;rintro g N ⟨rfl,d,c⟩;have q:=aa (And.intro (i.o.cur d c) (((qk (S:=two gs gc) l.o).set gs 2 (.inl (.inl rfl)) _).trans (qb c (.inr rfl))));clear d c;go_wp2
  go_end0
  refine⟨rfl,?_,q.o.2⟩;have r:=q.o.1;rw[A.o]at r;rw[B.o];exact r
 ·have T:(x !=0)=true:=aA.2 s;have B:Hid (mz t a=(m,a,5)):=aa (by rw[o.o,Fl s]);have A:Hid (aH t a 5 k=(⟨#[]⟩,a,5)):=aa (by unfold aH;rw[Fl (by decide)]);clear s o;go_enter func318,ntmps318;go_wp2_with fail;refine Yg (jG gc a t 0 _ H.o.2) λL b=>?_;have z:=aa (H.o.below b);have j:=aa b;clear b
  go_wp2_with fail;refine Yg (e.o _ (by have:=u.o;omega)) λM b=>?_;have f:=aa (z.o.below b);have l:=aa (Yf j.o b);clear b
  obtain⟨⟨D,-⟩,-⟩:=f.o.cells;go_wp2_with fail;refine(cB gc a t 0 5 _ f.o.2).mono ?_;rintro g N ⟨rfl,d,c⟩;rw[if_pos rfl]at d;have i:=aa (f.o.cur d c);have F:=aa ((qk (S:=two gs gc) l.o).trans (qb c (.inr rfl)));clear d c
  obtain⟨⟨I,-,J,-⟩,-,K,-⟩:=i.o.cells;have C:=aa (i.o.set 2 (.int .u32 m) {p with n:=m} rfl);go_wp2_with fail;refine(eo gc a t 5 k _ C.o.2).mono ?_;rintro g V ⟨rfl,d,c⟩;have q:=aa (And.intro (C.o.cur d c) ((F.o.set gs 2 (.inl (.inl rfl)) _).trans (qb c (.inr rfl))));clear d c;go_wp2
  go_end0
  refine⟨rfl,?_,q.o.2⟩;have r:=q.o.1;rw[A.o]at r;rw[B.o];exact r
def dH(t:abO)(a:Nat)(e:Int):abO×Nat×Int:=bp t (bp t a e 2).2.1 (bp t a e 2).2.2 (YZ (ls (bp t a e 2).1))
theorem vD(gs gc a:Nat)(t:abO)(e:Int)(p:Pr)(w:abP)(h:Src w gs gc t a e p):
  Calls prog 340 #[.pointer (some ⟨gs,0,none⟩)] w λe' w'=>
   e'= .returned (.string (dH t a e).1)/\Src w' gs gc t (dH t a e).2.1 (dH t a e).2.2 p/\w.grownBy w' (some gc):=by
 have H:=aa h;clear h
 have k:=jM t a e 2 2 (by omega);have f:Hid (dH t a e=bp t (bp t a e 2).2.1 (bp t a e 2).2.2 (YZ (ls (bp t a e 2).1))):=aa rfl;go_enter func340,ntmps340;go_wp2_with fail;refine(lr gs gc a t e 2 p _ H.o).mono ?_;rintro d n ⟨rfl,b,c⟩;go_wp2_with fail;refine(jA _ _ (by omega)).mono ?_;rintro d o ⟨rfl,rfl⟩;have l:=kx (ls (bp t a e 2).1) 2 (by rw[aN];exact k) (by omega);have j:=aa b;have i:=aa c
 clear b c;generalize YZ (ls (bp t a e 2).1)=q at*;generalize (bp t a e 2).2.1=a1 at*;generalize (bp t a e 2).2.2=e2 at*;have m:IntKind.i64.wrap (q:Int)=(q:Int):=by rw[aQ];omega
 go_wp2_with fail;refine(lr gs gc a1 t e2 q p _ j.o).mono ?_;rintro d r ⟨rfl,b,c⟩;rw[<-f.o]at b⊢;have g:=aa (And.intro b (i.o.trans c));clear b c;go_wp2;go_ret;exact⟨rfl,g.o⟩
theorem uU(t:abO)(a:Nat)(e n:Int)(h:t.size<=4611686018427387904):(bp t a e n).1.size<=4611686018427387904:=by
 unfold bp;split
 ·split
  ·show(t.extract a (a+n.toNat)).size<=_;rw[aj];omega
  ·exact ag _
 ·exact ag _
def dd(t:abO)(a:Nat)(e:Int):abO×Nat×Int:=
 ((dH t a e).1,(dH t a e).2.1,if(dH t a e).2.2=0/\YF (dH t a e).1=false then 6 else(dH t a e).2.2)
theorem Zj(gs gc a:Nat)(t:abO)(e:Int)(p:Pr)(w:abP)(h:Src w gs gc t a e p):
  Calls prog 339 #[.pointer (some ⟨gs,0,none⟩)] w λe' w'=>
   e'= .returned (.string (dd t a e).1)/\Src w' gs gc t (dd t a e).2.1 (dd t a e).2.2 p/\w.grownBy w' (some gc):=by
 have H:=aa h;have r:(dH t a e).1.size<=4611686018427387904:=uU _ _ _ _ h.2.2.2;clear h;have i:Hid (dd t a e=((dH t a e).1,(dH t a e).2.1,if(dH t a e).2.2=0/\YF (dH t a e).1=false then 6 else(dH t a e).2.2)):=aa rfl;go_enter func339,ntmps339;go_wp2_with fail;refine(vD gs gc a t e p _ H.o).mono ?_;rintro o z ⟨rfl,s,b⟩;have n:=aa s;have u:=aa b;clear s b
 generalize dH t a e=D at*;obtain⟨d,v,x⟩:=D;simp only at r i n;go_wp2_with fail;refine Yg (fk d _ r) λA l=>?_;have c:=aa (n.o.below l);have g:=aa (u.o.trans (Y7 l (some gc)));clear l
 cases f:YF d
 ·have j:=aa f;clear f
  obtain⟨⟨y,-⟩,-⟩:=c.o.cells;go_wp2_with fail;refine(cB gc v t x 6 _ c.o.2).mono ?_;rintro o B ⟨rfl,q,b⟩;have m:=aa (And.intro (c.o.cur q b) (g.o.trans b));clear q b;go_wp2;go_ret;rw[i.o];refine⟨rfl,?_,m.o.2⟩;have k:=m.o.1;rw[j.o]
  simpa using k
 ·have j:=aa f;clear f
  go_wp2;go_ret;rw[i.o];refine⟨rfl,?_,g.o⟩;have k:=c.o;rw[j.o]
  simpa using k
theorem AV(gs gc a:Nat)(t:abO)(e:Int)(p:Pr)(w:abP)(h:Src w gs gc t a e p):
  Calls prog 319 #[.pointer (some ⟨gs,0,none⟩)] w (lO gs gc t (dd t a e).2.1 (dd t a e).2.2 {p with text:=(dd t a e).1} w):=by
 have H:=aa h;clear h
 go_enter func319,ntmps319;go_wp2_with fail;refine(Zj gs gc a t e p _ H.o).mono ?_;rintro l o ⟨rfl,b,c⟩;have i:=aa b;have g:=aa c
 obtain⟨⟨-,-,-,k,-⟩,-,-,n,-⟩:=b.cells;clear b c;generalize dd t a e=D at*;obtain⟨d,j,m⟩:=D;have f:=aa (i.o.set 3 (.string d) {p with text:=d} rfl);go_wp2
 go_end0
 exact⟨rfl,f.o,(qb g.o (.inr rfl)).set gs 3 (.inl (.inl rfl)) _⟩
theorem xB(gs gc a:Nat)(t:abO)(e:Int)(p:Pr)(w:abP)(h:Src w gs gc t a e p):
  Calls prog 320 #[.pointer (some ⟨gs,0,none⟩)] w (lO gs gc t (dH t a e).2.1 (dH t a e).2.2 {p with text:=(dH t a e).1} w):=by
 have H:=aa h;clear h
 go_enter func320,ntmps320;go_wp2_with fail;refine(vD gs gc a t e p _ H.o).mono ?_;rintro l o ⟨rfl,b,c⟩;have i:=aa b;have g:=aa c
 obtain⟨⟨-,-,-,k,-⟩,-,-,n,-⟩:=b.cells;clear b c;generalize dH t a e=D at*;obtain⟨d,j,m⟩:=D;have f:=aa (i.o.set 3 (.string d) {p with text:=d} rfl);go_wp2
 go_end0
 exact⟨rfl,f.o,(qb g.o (.inr rfl)).set gs 3 (.inl (.inl rfl)) _⟩
def jJ(t:abO)(a:Nat)(e:Int):(abO×abO)×Nat×Int:=
 (((dd t a e).1,(dd t (dd t a e).2.1 (dd t a e).2.2).1),(dd t (dd t a e).2.1 (dd t a e).2.2).2.1,(dd t (dd t a e).2.1 (dd t a e).2.2).2.2)
theorem BP(gs gc a:Nat)(t:abO)(e:Int)(p:Pr)(w:abP)(h:Src w gs gc t a e p):
  Calls prog 321 #[.pointer (some ⟨gs,0,none⟩)] w (lO gs gc t (jJ t a e).2.1 (jJ t a e).2.2 {p with text:=(jJ t a e).1.1,value:=(jJ t a e).1.2} w):=by
 have H:=aa h;clear h
 have g:Hid (jJ t a e=(((dd t a e).1,(dd t (dd t a e).2.1 (dd t a e).2.2).1),(dd t (dd t a e).2.1 (dd t a e).2.2).2.1,(dd t (dd t a e).2.1 (dd t a e).2.2).2.2)):=aa rfl;go_enter func321,ntmps321;go_wp2_with fail;refine(Zj gs gc a t e p _ H.o).mono ?_;rintro r A ⟨rfl,b,c⟩;have j:=aa b;have q:=aa c
 obtain⟨⟨-,-,-,u,-⟩,-,-,y,-⟩:=b.cells;clear b c;generalize dd t a e=D at*;obtain⟨d,k,m⟩:=D;simp only at g j;have n:=aa (j.o.set 3 (.string d) {p with text:=d} rfl);go_wp2_with fail;refine(Zj gs gc k t m _ _ n.o).mono ?_;rintro r B ⟨rfl,b,c⟩;have f:=aa b;have i:=aa ((((qb (S:=two gs gc) q.o (.inr rfl)).set gs 3 (.inl (.inl rfl)) _)).trans (qb c (.inr rfl)));obtain⟨⟨-,-,-,-,v⟩,-,-,-,z⟩:=b.cells;clear b c;generalize dd t k m=D at*;obtain⟨l,s,x⟩:=D;simp only at g f;have o:=aa (f.o.set 4 (.string l) {p with text:=d,value:=l} rfl);go_wp2
 go_end0
 rw[g.o];exact⟨rfl,o.o,i.o.set gs 4 (.inl (.inl rfl)) _⟩
def rdF(sh:Nat):FuncId:=
 if sh=1 then 315 else if sh=2 then 316 else if sh=3 then 317 else if sh=4 then 318
 else if sh=5 then 319 else if sh=6 then 320 else 321
def fnV(f:FuncId):Value:=.func (.func f) #[] #[]
def Bw:List (Int×Value):=[(1,fnV 315),(2,fnV 316),(3,fnV 317),(4,fnV 318),(5,fnV 319),(6,fnV 320),(7,fnV 321)]
theorem Cq(sh:Nat)(h1:1<=sh)(h7:sh<=7):ia Bw sh=some (fnV (rdF sh)):=by
 obtain rfl| rfl| rfl| rfl| rfl| rfl| rfl:sh=1\/sh=2\/sh=3\/sh=4\/sh=5\/sh=6\/sh=7:=by omega
 all_goals rfl
theorem Yx(w:abP):Calls prog 289 #[] w λe w'=>e= .returned (.map (some w.heap.size))/\fQ .i64 w' w.heap.size Bw/\abQ w w':=by
 have h:=@run_makeMap prog;have b:=aa (yq w .i64);have a:=aa ((aq w.heap.size w).alloc (ac _) (.map #[] 0));go_enter func289,ntmps289;go_wp2_with (refine lc _ rfl _ _ _ 241 rfl 3 245 (by kernel_rfl) (by kernel_rfl) w.heap.size _ rfl b.o _ _ rfl rfl rfl ?_;intro i c f;have d:=a.o.grown f (a.o.size) (λk g=>by cases g;exact ac _);clear b a f;have b:=aa c;have a:=aa d;clear c d);exact abZ (v:=.map (some w.heap.size)) (by simp[results,Tryz.results289,go_sem]) rfl ⟨rfl,b.o,a.o⟩
theorem dv{P:Program}{f:FuncId}{fn:Func}{c:Code}(hf:P.funcs[f]? =some fn)(hname:(fn.name== "runtime.NumGoroutine")=false)(hb:fn.body=some c)(args:Array Value)(w:abP):
  (callFunc f args).run P w= .ok (.enter f args) w:=by
 have a:fn.name≠ "runtime.NumGoroutine" :=by simpa using hname
 simp[callFunc,hf,a,hb]
theorem aa6(sh:Nat)(h1:1<=sh)(h7:sh<=7)(args:Array Value)(w:abP):(callFunc (rdF sh) args).run prog w= .ok (.enter (rdF sh) args) w:=by
 obtain rfl| rfl| rfl| rfl| rfl| rfl| rfl:sh=1\/sh=2\/sh=3\/sh=4\/sh=5\/sh=6\/sh=7:=by omega
 ·exact dv func315 (by kernel_rfl) rfl args w
 ·exact dv func316 (by kernel_rfl) rfl args w
 ·exact dv func317 (by kernel_rfl) rfl args w
 ·exact dv func318 (by kernel_rfl) rfl args w
 ·exact dv func319 (by kernel_rfl) rfl args w
 ·exact dv func320 (by kernel_rfl) rfl args w
 ·exact dv func321 (by kernel_rfl) rfl args w
structure VRead where
 n:Nat
 text:abO
 value:abO
 at_:Nat
 err:Int
def dW(sh:Nat)(t:abO)(a:Nat):VRead:=
 if sh=1 then⟨YZ (ls (bp t a 0 1).1),⟨#[]⟩,⟨#[]⟩,(bp t a 0 1).2.1,(bp t a 0 1).2.2⟩
 else if sh=2 then⟨YZ (ls (bp t a 0 2).1),⟨#[]⟩,⟨#[]⟩,(bp t a 0 2).2.1,(bp t a 0 2).2.2⟩
 else if sh=3 then⟨YZ (ls (bp t a 0 4).1),⟨#[]⟩,⟨#[]⟩,(bp t a 0 4).2.1,(bp t a 0 4).2.2⟩
 else if sh=4 then⟨(mz t a).1,⟨#[]⟩,⟨#[]⟩,(mz t a).2.1,(mz t a).2.2⟩
 else if sh=5 then⟨0,(dd t a 0).1,⟨#[]⟩,(dd t a 0).2.1,(dd t a 0).2.2⟩
 else if sh=6 then⟨0,(dH t a 0).1,⟨#[]⟩,(dH t a 0).2.1,(dH t a 0).2.2⟩
 else⟨0,(jJ t a 0).1.1,(jJ t a 0).1.2,(jJ t a 0).2.1,(jJ t a 0).2.2⟩
theorem DF(sh:Nat)(h1:1<=sh)(h7:sh<=7)(gs gc a:Nat)(t:abO)(id:Int)(w:abP)(h:Src w gs gc t a 0 ⟨id,0,⟨#[]⟩,⟨#[]⟩⟩):
  Calls prog (rdF sh) #[.pointer (some ⟨gs,0,none⟩)] w (lO gs gc t (dW sh t a).at_ (dW sh t a).err ⟨id,(dW sh t a).n,(dW sh t a).text,(dW sh t a).value⟩ w):=by
 obtain rfl| rfl| rfl| rfl| rfl| rfl| rfl:sh=1\/sh=2\/sh=3\/sh=4\/sh=5\/sh=6\/sh=7:=by omega
 ·exact Ei gs gc a t 0 _ w h
 ·exact DG gs gc a t 0 _ w h
 ·exact CE gs gc a t 0 _ w h
 ·exact AM gs gc a t _ w h
 ·exact AV gs gc a t 0 _ w h
 ·exact xB gs gc a t 0 _ w h
 ·exact BP gs gc a t 0 _ w h
section
def Y4(t:abO)(a:Nat):Nat:=((ls t).getD a 0).toNat
def iy(kind:Int)(t:abO):Nat->Nat->(Nat->Nat)->List Pr->List Pr×Int
 | 0,_,_,_=>([],9)
 | m+1,a,f,out=>
   if t.size<=a then(if jp f=true then([],9)else(out,0))
   else if ng (cr (Y4 t a)) kind=false then([],9)
   else if(dW (cr (Y4 t a)).shape t (a+1)).err≠0 then([],(dW (cr (Y4 t a)).shape t (a+1)).err)
   else if de (cr (Y4 t a)) kind ⟨Y4 t a,(dW (cr (Y4 t a)).shape t (a+1)).n,(dW (cr (Y4 t a)).shape t (a+1)).text,(dW (cr (Y4 t a)).shape t (a+1)).value⟩≠0 then
    ([],de (cr (Y4 t a)) kind ⟨Y4 t a,(dW (cr (Y4 t a)).shape t (a+1)).n,(dW (cr (Y4 t a)).shape t (a+1)).text,(dW (cr (Y4 t a)).shape t (a+1)).value⟩)
   else if iC f kind (Y4 t a)=true then([],9)
   else if out.length=1000 then([],4)
   else iy kind t m (dW (cr (Y4 t a)).shape t (a+1)).at_ (upd f (Y4 t a) (f (Y4 t a)+1)) (out++[⟨Y4 t a,(dW (cr (Y4 t a)).shape t (a+1)).n,(dW (cr (Y4 t a)).shape t (a+1)).text,(dW (cr (Y4 t a)).shape t (a+1)).value⟩])
def fq(kind:Int)(t:abO):List Pr×Int:=iy kind t (t.size+1) 0 (λ_=>0) []
theorem lu(h:a<=t.size)(e n:Int):a<=(bp t a e n).2.1/\(bp t a e n).2.1<=t.size:=by
 unfold bp;split
 ·split
  ·rename_i b;simp only[jQ,eh,cH]at b;simp only;omega
  ·exact⟨ac _,h⟩
 ·exact⟨ac _,h⟩
theorem lH(h:a<=t.size)(e:Int):a<=(dH t a e).2.1/\(dH t a e).2.1<=t.size:=by
 have b:=lu h e 2;have c:=lu b.2 (bp t a e 2).2.2 (YZ (ls (bp t a e 2).1));unfold dH;omega
theorem zO(t:abO)(a:Nat)(e n:Int):(bp t a e n).1.size<=t.size:=by
 unfold bp;split
 ·split
  ·show(t.extract a (a+n.toNat)).size<=_;rw[aj];omega
  ·exact ag _
 ·exact ag _
theorem xO(h:a<=t.size)(sh:Nat):a<=(dW sh t a).at_/\(dW sh t a).at_<=t.size:=by
 unfold dW;split
 ·exact lu h _ _
 ·split
  ·exact lu h _ _
  ·split
   ·exact lu h _ _
   ·split
    ·have:=jH ((ls t).drop a);rw[bU,aN]at this;unfold mz;split
     ·simp only;omega
     ·exact⟨ac _,h⟩
    ·split
     ·exact lH h _
     ·split
      ·exact lH h _
      ·have b:=lH h 0;have c:=lH b.2 (dd t a 0).2.2;unfold jJ dd at*;simp only at*;omega
theorem xN(ht:t.size<=140737488351232)(sh:Nat):(dW sh t a).n<4294967296/\(dW sh t a).text.size<=140737488351232/\(dW sh t a).value.size<=140737488351232:=by
 have d:∀k:Nat,k<=4->YZ (ls (bp t a 0 k).1)<4294967296:=λk f=>kx _ k (by rw[aN];exact jM t a 0 k k (by omega)) f;have c:∀(b:Nat) (e:Int),(dH t b e).1.size<=140737488351232:=λb e=>by
  unfold dH;exact aC (zO _ _ _ _) ht
 unfold dW;split
 ·exact⟨d 1 (by omega),by simp[ByteArray.size],by simp[ByteArray.size]⟩
 ·split
  ·exact⟨d 2 (by omega),by simp[ByteArray.size],by simp[ByteArray.size]⟩
  ·split
   ·exact⟨d 4 (by omega),by simp[ByteArray.size],by simp[ByteArray.size]⟩
   ·split
    ·refine⟨?_,by simp[ByteArray.size],by simp[ByteArray.size]⟩;have:=pT ((ls t).drop a);unfold mz;split<;>(simp only;omega)
    ·split
     ·exact⟨by simp,c _ _,by simp[ByteArray.size]⟩
     ·split
      ·exact⟨by simp,c _ _,by simp[ByteArray.size]⟩
      ·exact⟨by simp,c _ _,c _ _⟩
def BL(w:abP)(gc:Nat):Nat:=match w.cell? ⟨gc,1,none⟩with| some v=>(intOf v).toNat| none=>0
theorem rV{gc:Nat}(h:Cur w gc t a e):BL w gc=a:=by
 unfold BL;rw[h.cells.1.2.1];simp[intOf]
structure LInv (w0:abP) (r1 r2 g gs gc B0:Nat) (t:abO) (f:Nat->Nat) (a:Nat) (e:Int) (p:Pr) (w:abP):Prop where
 kept:gZ w0 w
 tab:Tab w r1
 rd:fQ .i64 w r2 Bw
 seen:Bk w g ST (fL f)
 src:Src w gs gc t a e p
 base:B0<=w.heap.size
 nums:r1<B0/\r2<B0/\g<B0/\gs<B0/\gc<B0/\w0.heap.size<=g/\w0.heap.size<=gs/\w0.heap.size<=gc/\g≠gs/\g≠gc/\r1≠gs/\r1≠gc/\r2≠gs/\r2≠gc/\r1≠g/\r2≠g/\w0.heap.size<=B0
section
variable {w0 w w':abP} {r1 r2 g gs gc B0 a:Nat} {t:abO} {f:Nat->Nat} {e:Int} {p:Pr}
theorem LInv.below(h:LInv w0 r1 r2 g gs gc B0 t f a e p w)(hb:abQ w w'):LInv w0 r1 r2 g gs gc B0 t f a e p w':=
 ⟨h.kept.below hb,h.tab.below hb h.tab.lt,h.rd.below hb h.rd.lt,h.seen.below hb h.seen.lt,h.src.below hb,aC h.base hb.size,h.nums⟩
theorem LInv.alloc(h:LInv w0 r1 r2 g gs gc B0 t f a e p w)(o:Obj):LInv w0 r1 r2 g gs gc B0 t f a e p (w.alloc o):=h.below ((aq _ _).alloc (ac _) o)
theorem LInv.mods{a':Nat}{e':Int}{p':Pr}(h:LInv w0 r1 r2 g gs gc B0 t f a e p w)(hm:Mods (two gs gc) w w')(hs:Src w' gs gc t a' e' p'):LInv w0 r1 r2 g gs gc B0 t f a' e' p' w':=by
 have c:=h.nums;refine⟨hm.below h.kept (by have:=h.base;omega) (λi b=>by rcases b with rfl| rfl<;>omega),?_,h.rd.mods hm (by rintro (x| x)<;>omega),h.seen.mods hm (by rintro (x| x)<;>omega),hs,aC h.base hm.size,c⟩;exact(hm.block r1 h.tab.lt (by rintro (x| x)<;>omega)).trans h.tab
theorem LInv.again{f':Nat->Nat}(h:LInv w0 r1 r2 g gs gc B0 t f a e p w)(hm:w.grownBy w' (some g))(hs:Bk w' g ST (fL f')):LInv w0 r1 r2 g gs gc B0 t f' a e p w':=by
 have l:=h.nums;have b:∀i,i<w.heap.size->i≠g->w'.heap[i]? =w.heap[i]? :=λi d c=>hm.block i d (λx=>c (by cases x;rfl));refine⟨Below.grown h.kept hm (by have:=h.base;omega) (λk j=>by cases j;omega),(b r1 h.tab.lt (by omega)).trans h.tab,(b r2 h.rd.lt (by omega)).trans h.rd,hs,⟨(b gs h.src.1.lt (by omega)).trans h.src.1,(b gc h.src.2.lt (by omega)).trans h.src.2.1,h.src.2.2⟩,aC h.base hm.size,l⟩
theorem LInv.app{v:Value}(h:LInv w0 r1 r2 g gs gc B0 t f a e p w)(hg:w.grownBy w' v.ownBlock)(hv:∀k,v.ownBlock=some k->B0<=k):LInv w0 r1 r2 g gs gc B0 t f a e p w':=by
 have j:=h.nums;have b:∀i,i<w.heap.size->i<B0->w'.heap[i]? =w.heap[i]? :=λi c l=>hg.block i c (λx=>by have:=hv i x.symm;omega);refine⟨h.kept.app hg (λk d=>by have:=hv k d;omega),(b r1 h.tab.lt (by omega)).trans h.tab,(b r2 h.rd.lt (by omega)).trans h.rd,(b g h.seen.lt (by omega)).trans h.seen,⟨(b gs h.src.1.lt (by omega)).trans h.src.1,(b gc h.src.2.lt (by omega)).trans h.src.2.1,h.src.2.2⟩,aC h.base hg.size,j⟩
end
theorem Src.put{gs gc:Nat}{p:Pr}(h:Src w gs gc t a e p)(q:Pr):
  Src ((((w.setCell ⟨gs,1,none⟩ (.int .i64 q.id)).setCell ⟨gs,2,none⟩ (.int .u32 q.n)).setCell ⟨gs,3,none⟩ (.string q.text)).setCell ⟨gs,4,none⟩ (.string q.value)) gs gc t a e q:=by
 have b:=h.set 1 (.int .i64 q.id) {p with id:=q.id} rfl;have c:=b.set 2 (.int .u32 q.n) {p with id:=q.id,n:=q.n} rfl;have d:=c.set 3 (.string q.text) {q with value:=p.value} rfl;exact d.set 4 (.string q.value) q rfl
theorem pY(w:abP)(gs gc:Nat)(a b c d:Value):Mods (two gs gc) w ((((w.setCell ⟨gs,1,none⟩ a).setCell ⟨gs,2,none⟩ b).setCell ⟨gs,3,none⟩ c).setCell ⟨gs,4,none⟩ d):=
 ((((Mods.refl w).set gs 1 (.inl (.inl rfl)) a).set gs 2 (.inl (.inl rfl)) b).set gs 3 (.inl (.inl rfl)) c).set gs 4 (.inl (.inl rfl)) d
theorem Ej(t:abO)(a:Nat)(h:a<t.size):br t a 0 1=Y4 t a/\(aH t a 0 1).2=(a+1,0):=by
 have b:jQ t a 1=true:=by simp[jQ];omega
 have e:aH t a 0 1=(t.extract a (a+1),a+1,0):=by unfold aH;rw[if_pos rfl,if_pos b];rfl
 refine⟨?_,by rw[e]⟩;unfold br Y4;rw[e];have:ls (t.extract a (a+1))=[(ls t)[a]'(by rw[aN];exact h)]:=by
  unfold ls;rw[Lib.extract_data];apply dM;intro i;cases i with
  | zero=>simp[List.getElem?_drop]
  | succ i=>simp[List.getElem?_take]
 rw[this];simp[YZ,List.getD,List.getElem?_eq_getElem (show a<(ls t).length by rw[aN];exact h)]
end
def yR(r:List Pr×Int)(w:abP)(e:Ending)(w':abP):Prop:=
 ∃A c,e= .returned (.tuple #[.slice A r.1.length c,.int .i64 r.2])/\r.1.length<=c/\Rd w' w'.heap.size 4 A r.1.length (prs r.1)/\abQ w w'
theorem ib{r:List Pr×Int}{x:Int}{w':abP}(h:r=([],x))(hb:abQ w w'):yR r w (.returned (.tuple #[.slice none 0 0,.int .i64 x])) w':=by
 subst h;exact⟨none,0,rfl,ac _,Rd.nil _ _ _ _,hb⟩
theorem sI{id:Int}{r:Rule}(h:cr id=r)(hh:ng r kind=true):1<=r.shape/\r.shape<=7:=by
 subst h;unfold cr at hh⊢;cases a:dQ.find? λq=>(q.1:Int)==id with
 | none=>rw[a]at hh;simp[ng]at hh
 | some q=>
   have b:∀q∈dQ,1<=q.2.shape/\q.2.shape<=7:=by decide
   exact b q (jc a)
theorem ey(w:abP)(o:Obj):(w.alloc o).heap.size=w.heap.size+1:=by simp
theorem Cs(kind:Int)(t:abO)(w:abP)(ht:t.size<=140737488351232):
  Calls prog 230 #[.int .i64 kind,.string t] w (yR (fq kind t) w):=by
 have HT:=aa ht;clear ht
 go_enter func230,ntmps230;go_wp2_with fail;refine(rK _).mono ?_;rintro e w1 ⟨rfl,hT,a3⟩;have an:=aa hT;have bq:=aa a3;clear hT a3
 go_wp2_with fail;refine(Yx _).mono ?_;rintro e h ⟨rfl,hR,a4⟩;have b2:w.heap.size<w1.heap.size:=an.o.lt;have b3:w1.heap.size<h.heap.size:=hR.lt;have bv:=aa hR;have aV:=aa a4;clear hR a4
 have a0:=aa (Bk.fresh h ST (fL λ_=>0));have br:=aa ((aq h.heap.size h).alloc (ac _) (.cells (fL λ_=>0) ST));rw[kJ]at a0 br;go_wp2_with fail;refine(jL t _ (by have:=HT.o;omega)).mono ?_;rintro e j ⟨rfl,ag,r⟩
 change Below _ _ _ at r;rw[ey]at ag r
 have b4:h.heap.size+1<j.heap.size:=ag.lt;have aX:=aa ag;have bs:=aa r;clear ag r
 have HI:Hid (LInv w w.heap.size w1.heap.size h.heap.size j.heap.size (h.heap.size+1) (j.heap.size+1) t (λ_=>0) 0 0 ⟨0,0,⟨#[]⟩,⟨#[]⟩⟩ (j.alloc (.cells #[.pointer (some ⟨h.heap.size+1,0,none⟩),.int .i64 0,.int .u32 0,.string ⟨#[]⟩,.string ⟨#[]⟩] SrT))):=aa (by
  have r:Below (h.heap.size+1) (h.alloc (.cells (fL λ_=>0) ST)) j:=by rw[kJ];exact bs.o
  have k1:gZ w w1:=bq.o;have k2:gZ w h:=k1.below aV.o;have k4:gZ w j:=(k2.alloc (.cells (fL λ_=>0) ST)).below (by show Below _ _ _;simpa using r);refine⟨k4.alloc _,?_,?_,?_,⟨Bk.fresh _ _ _,aX.o.1.alloc _,aX.o.2⟩,by simp,by refine⟨?_,?_,?_,?_,?_,?_,?_,?_,?_,?_,?_,?_,?_,?_,?_,?_,?_⟩<;>omega⟩
  ·exact(((an.o.below aV.o an.o.lt).alloc (.cells (fL λ_=>0) ST)).below r (by omega)).alloc _
  ·exact(((bv.o).alloc (.cells (fL λ_=>0) ST)).below r (by omega)).alloc _
  ·have:=a0.o;rw[<-kJ]at this;exact(this.below r (by omega)).alloc _)
 go_wp2
 go_loopw [8] (λv wr=>∃(a m:Nat) (f:Nat->Nat) (b:List Pr) (p:Pr),a<=t.size/\t.size<a+m/\fq kind t=iy kind t m a f b/\b.length<=1000/\(∀i,f i<=b.length)/\
   LInv w w.heap.size w1.heap.size h.heap.size j.heap.size (h.heap.size+1) (j.heap.size+1) t f a 0 p wr/\wr.ownsRow (j.heap.size+1) 71 4 v b.length (prs b)) (λ_ wr=>t.size- BL wr (h.heap.size+1))
 case atStart=>exact⟨0,t.size+1,λ_=>0,[],_,by omega,by omega,rfl,by simp,by simp,HI.o,dD _ _ _ _⟩
 case round=>
  obtain⟨a,m,f,b,p,ha,hm,a5,b0,hf,M,aH⟩:=hrel;have aY:=aa a5;have HF:=aa hf;have K:=aa M;have am:=aa aH
  have bh:=aa (rV M.src.2);clear a5 hf aH;obtain⟨⟨c0,-⟩,-⟩:=M.src.cells;clear M;by_cases bJ:a<t.size
  ·have hp:(0:Int)<((t.size- a:Nat):Int):=by omega
   go_wp2_with fail;refine Yg (eI (h.heap.size+1) a t 0 _ K.o.src.2) λw5 o=>?_;have X:=aa (K.o.below o);have O5:=aa (dV am.o o);clear o
   obtain⟨⟨bC,-⟩,-⟩:=X.o.src.cells;go_wp2_with fail;refine(dR (h.heap.size+1) a t 0 1 _ X.o.src.2 (by omega)).mono ?_;rintro e w6 ⟨rfl,L,ai⟩;obtain⟨a8,a9⟩:=Ej t a bJ;rw[a9]at L;rw[a8];have I6:=aa (X.o.mods (qb ai (.inr rfl)) (X.o.src.cur L ai));have O6:=aa (jg O5.o (qb (S:=λi=>i=h.heap.size+1) ai rfl) (λg Y=>by have:=(cX O5.o g Y).1;omega));have aW:Hid (j.heap.size+1<=w6.heap.size):=aa I6.o.base;clear L ai a8 a9 c0 bC;have bH:Y4 t a<256:=UInt8.toNat_lt _;obtain⟨d,F,le,H,Q,a7⟩:=rL (Y4 t a);have bI:=a7 _ _ I6.o.tab;have hw:IntKind.i64.wrap (Y4 t a:Int)=(Y4 t a:Int):=by rw[aQ];omega
   have bg:Hid (∃O,m=O+1):=aa ⟨m- 1,by omega⟩;obtain⟨O,rfl⟩:=bg.o;have HG:Hid (fq kind t=iy kind t (O+1) a f b):=aY;unfold iy at HG;rw[Q.o]at HG;simp only at HG;have bZ:Hid (Y4 t a<256):=aa bH;generalize Y4 t a=id at*;have ap:=aa (Bk.fresh w6 198 #[.int .i64 d,.int .i64 F,.int .u32 le,.int .u32 H]);have I7:=aa (I6.o.alloc (.cells #[.int .i64 d,.int .i64 F,.int .u32 le,.int .u32 H] 198));have O7:=aa (O6.o.alloc (.cells #[.int .i64 d,.int .i64 F,.int .u32 le,.int .u32 H] 198));clear a7;go_wp2_with fail;refine Yg (vr ⟨d,F,le,H⟩ (Q.o▸nL id) kind _) λw8 o=>?_;have I8:=aa (I7.o.below o);have O8:=aa (dV O7.o o);have au:=aa (ap.o.below o ap.o.lt)
   clear o bI I6 O6 I7 O7 ap;cases B:ng ⟨d,F,le,H⟩ kind
   ·have q:Hid (fq kind t=([],9)):=aa (by rw[HG.o,Fl (by omega),if_pos B]);have C:=aa I8.o.kept;clear B;go_wp2;go_ret2;exact ib q.o C.o
   ·have bM:=aa B;have l:Hid (fq kind t=if(dW d t (a+1)).err≠0 then([],(dW d t (a+1)).err)else if de ⟨d,F,le,H⟩ kind ⟨id,(dW d t (a+1)).n,(dW d t (a+1)).text,(dW d t (a+1)).value⟩≠0 then([],de ⟨d,F,le,H⟩ kind ⟨id,(dW d t (a+1)).n,(dW d t (a+1)).text,(dW d t (a+1)).value⟩)
      else if iC f kind id=true then([],9)else if b.length=1000 then([],4)else iy kind t O (dW d t (a+1)).at_ (upd f id (f id+1)) (b++[⟨id,(dW d t (a+1)).n,(dW d t (a+1)).text,(dW d t (a+1)).value⟩])):=aa (by
     rw[HG.o,Fl (by omega),Fl (by rw[B];decide)])
    have aJ:=sI Q.o B;have Z:=aJ.1;have ab:=aJ.2;clear B HG aJ;have I9:=aa (I8.o.mods (pY w8 j.heap.size (h.heap.size+1) (.int .i64 id) (.int .u32 0) (.string ⟨#[]⟩) (.string ⟨#[]⟩)) (I8.o.src.put ⟨id,0,⟨#[]⟩,⟨#[]⟩⟩));have a6:=(nY (P:=prog) (t:=241) (k:=3) (e:=245) (z:=.nilFunc) (by kernel_rfl) (by kernel_rfl) (by kernel_rfl) I9.o.rd (d:Int)).1;rw[Cq d Z ab,kB,fnV]at a6;obtain⟨⟨d0,d1,d2,d3,d4⟩,f1,f2,f3,f4⟩:=I8.o.src.cells;obtain⟨⟨e0,e1,e2,e3⟩,-⟩:=au.o.four;have bF:=aa6 d Z ab;have bd:=xN HT.o (a:=a+1) d;have bc:=xO (show a+1<=t.size by omega) d;have a1:=aa bd;have ad:=aa bc
    clear bd bc;go_wp2_with fail;refine(DF d Z ab j.heap.size (h.heap.size+1) (a+1) t id _ I9.o.src).mono ?_;rintro e b5 ⟨rfl,aI,N⟩;have ao:=aa ((au.o.mods (pY w8 j.heap.size (h.heap.size+1) (.int .i64 id) (.int .u32 0) (.string ⟨#[]⟩) (.string ⟨#[]⟩)) (by have:=aW.o;rintro (x| x)<;>omega)).mods N (by have:=aW.o;rintro (x| x)<;>omega));have a2:=aa (jg (jg O8.o (pY w8 j.heap.size (h.heap.size+1) (.int .i64 id) (.int .u32 0) (.string ⟨#[]⟩) (.string ⟨#[]⟩)) (λg Y=>by have:=(cX O8.o g Y).1;rintro (x| x)<;>omega)) N (λg Y=>by have:=(cX O8.o g Y).1;rintro (x| x)<;>omega));have I:=aa (I9.o.mods N aI);clear aI N bF a6 d0 d1 d2 d3 d4 f1 f2 f3 f4 e0 e1 e2 e3 au O8 I8 I9;generalize dW d t (a+1)=V at*;obtain⟨s,u,y,a',e'⟩:=V;simp only at l a1 ad I;obtain⟨⟨d0,d1,d2,d3,d4⟩,-⟩:=I.o.src.cells;go_wp2_with fail;refine(dG (h.heap.size+1) a' t e' _ I.o.src.2).mono ?_;rintro e b6 ⟨rfl,rfl⟩;by_cases ah:e'=0
    ·subst ah;obtain⟨⟨e0,e1,e2,e3⟩,-⟩:=ao.o.four;go_wp2_with fail;refine Yg (sw ⟨d,F,le,H⟩ (Q.o▸nL id) kind ⟨id,s,u,y⟩ (rU (p:=⟨id,s,u,y⟩) a1.o) _) λb7 o=>?_;have ae:=aa (I.o.below o);have aw:=aa (dV a2.o o)
     clear o d0 d1 d2 d3 d4 e0 e1 e2 e3 ao I a2;obtain⟨E,hE⟩:∃E,de ⟨d,F,le,H⟩ kind ⟨id,s,u,y⟩=E:=⟨_,rfl⟩;rw[hE]at l⊢;have HE:=aa hE;clear hE
     by_cases af:E=0
     ·subst af;have aU:=(nr (kind:=kind) (p:=⟨id,s,u,y⟩) (by rw[show cr (⟨(id:Int),s,u,y⟩:Pr).id=⟨d,F,le,H⟩from Q.o];exact HE.o)).1.2;simp only at aU;go_wp2_with fail;refine(sB h.heap.size f kind id (by omega) (by have:=HF.o id;omega) _ ae.o.seen).mono ?_;rintro e b8 ⟨rfl,bb,aG⟩;have T:=aa (ae.o.again aG bb);have ax:=aa (aw.o.kept aG (.inr λx=>by have:=(cX aw.o _ x).1;omega));clear bb aG ae aw;obtain⟨G,hG⟩:∃G,iC f kind id=G:=⟨_,rfl⟩;rw[hG]at l⊢;clear hG;cases G
      ·obtain⟨A,c,rfl,L,W⟩:=jK ax.o;have aZ:=aa W;have HC:=aa L;clear W L
       by_cases D:b.length=1000
       ·have eF:((b.length:Int)==1000)=true:=aK.2 (by omega);have q:Hid (fq kind t=([],4)):=aa (by rw[l.o,Fl (by simp),Fl (by simp),Fl (by simp),if_pos D]);have C:=aa T.o.kept;clear D;go_wp2;go_ret2;exact ib q.o C.o
       ·have eF:((b.length:Int)==1000)=false:=ar.2 (by omega);have q:Hid (fq kind t=iy kind t O a' (upd f id (f id+1)) (b++[⟨id,s,u,y⟩])):=aa (by rw[l.o,Fl (by simp),Fl (by simp),Fl (by simp),Fl D]);have J:Hid (b.length<1000):=aa (by omega);clear D;obtain⟨⟨d0,d1,d2,d3,d4⟩,-⟩:=T.o.src.cells;have ba:∀g,(Value.slice A b.length c).ownBlock=some g->j.heap.size+1<=g:=λg Y=>(cX ax.o g Y).1;have HQ:=aa ba;clear ba
        go_wp2_with (at_builtin;refine kF _ rfl (.tmp 63) (.tmp 66) 24 rfl (j.heap.size+1) 71 _ 4 48 underlying24 zZ rfl (by decide) (.slice A b.length c) _ _ rfl (ax.o.alloc _) _ _ 1 1 (prs [⟨id,s,u,y⟩]) rfl (aby _ ⟨id,s,u,y⟩) (Eb _) (by have:=J.o;unfold maxLen;omega) (by have:=J.o;omega) (by have:=T.o.base;simp;omega) ?_;intro v' be U aF aT);have R:LInv w w.heap.size w1.heap.size h.heap.size j.heap.size (h.heap.size+1) (j.heap.size+1) t (upd f id (f id+1)) a' 0 ⟨id,s,u,y⟩ be/\be.ownsRow (j.heap.size+1) 71 4 v' (b++[(⟨id,s,u,y⟩:Pr)]).length (prs (b++[⟨id,s,u,y⟩]))/\(∀i,upd f id (f id+1) i<=(b++[(⟨id,s,u,y⟩:Pr)]).length):=by
         refine⟨(T.o.alloc _).app aF HQ.o,?_,λi=>?_⟩
         ·rw[wK,List.length_append];exact U
         ·rw[List.length_append];have q1:=HF.o id;have q2:=HF.o i
          unfold upd;split<;>(simp only[qU];omega)
        have HR:=aa R;have bu:=aa (rV R.1.src.2);clear R U aF aT d0 d1 d2 d3 d4;go_wp2;go_roundw
        case rel=>
         refine⟨a',O,upd f id (f id+1),b++[⟨id,s,u,y⟩],⟨id,s,u,y⟩,ad.o.2,by have:=ad.o.1;omega,q.o,?_,HR.o.2.2,HR.o.1,HR.o.2.1⟩;rw[List.length_append];have:=J.o;simp only[qU];omega
        case measure=>
         simp only[bu.o,bh.o];have:=ad.o.1;omega
      ·have q:Hid (fq kind t=([],9)):=aa (by rw[l.o,Fl (by simp),Fl (by simp),if_pos rfl]);have C:=aa T.o.kept;go_wp2;go_ret2;exact ib q.o C.o
     ·have e0:(E !=0)=true:=aA.2 af;have q:Hid (fq kind t=([],E)):=aa (by rw[l.o,Fl (by simp),if_pos af]);have C:=aa ae.o.kept;clear af;go_wp2;go_ret2;exact ib q.o C.o
    ·have e0:(e' !=0)=true:=aA.2 ah;have q:Hid (fq kind t=([],e')):=aa (by rw[l.o,if_pos ah]);have C:=aa I.o.kept;clear ah;go_wp2;go_ret2;exact ib q.o C.o
  ·have hp:¬((0:Int)<((t.size- a:Nat):Int)):=by omega
   have b1:((t.size- a:Nat):Int)<=0:=by omega
   obtain⟨O,rfl⟩:∃O,m=O+1:=⟨m- 1,by omega⟩;have l:Hid (fq kind t=if jp f=true then([],9)else(b,0)):=aa (by rw[aY.o,iy,if_pos (by omega)]);go_wp2_with fail;refine Yg (eI (h.heap.size+1) a t 0 _ K.o.src.2) λw5 o=>?_;have X:=aa (K.o.below o);have O5:=aa (dV am.o o);clear o
   clear c0;go_wp2_with fail;refine Yg (u6 h.heap.size f _ X.o.seen) λw6 bK=>?_;subst bK;rw[show(decide (0<f 22)&&f 21==0)=jp f from rfl];have C:=aa X.o.kept;cases hL:jp f
   ·have q:Hid (fq kind t=(b,0)):=aa (by rw[l.o,hL];rfl);obtain⟨A,c,rfl,L,W⟩:=jK O5.o;have HC:=aa L;have aZ:=aa W
    clear hL L W;go_wp2;go_ret2;rw[q.o];exact⟨A,c,rfl,HC.o,aZ.o,C.o⟩
   ·have q:Hid (fq kind t=([],9)):=aa (by rw[l.o,hL];rfl);clear hL;go_wp2;go_ret2;exact ib q.o C.o
theorem pZ(l:List UInt8)(h:l.length=1):Yk (YZ l) 1=l:=by
 match l,h with
 | [a],_=>
   simp[YZ,Yk,List.range_succ]
theorem rG{a:UInt8}(h:n% 256=a.toNat):UInt8.ofNat n=a:=by
 apply UInt8.toNat.inj;rw[UInt8.toNat_ofNat'];exact h
theorem lm(l:List UInt8)(h:l.length=2):Yk (YZ l) 2=l:=by
 match l,h with
 | [a,b],_=>
   have c:=a.toNat_lt;have d:=b.toNat_lt
   simp only[YZ,Yk,List.range_succ,List.range_zero,dX,IJ,fI,gC,jq,List.foldl_nil];simp only[gY,Hj];exact⟨by rw[if_pos (by omega)];exact rG (by simp<;>omega),by rw[if_pos (by omega)];exact rG (by simp<;>omega)⟩
theorem BE(l:List UInt8)(h:l.length=4):Yk (YZ l) 4=l:=by
 match l,h with
 | [a,b,c,d],_=>
   have e:=a.toNat_lt;have f:=b.toNat_lt;have g:=c.toNat_lt;have i:=d.toNat_lt
   simp only[YZ,Yk,List.range_succ,List.range_zero,dX,IJ,fI,gC,jq,List.foldl_nil];simp only[gY,Hj];exact⟨by rw[if_pos (by omega)];exact rG (by simp<;>omega),by rw[if_pos (by omega)];exact rG (by simp<;>omega),by rw[if_pos (by omega)];exact rG (by simp<;>omega),by rw[if_pos (by omega)];exact rG (by simp<;>omega)⟩
theorem Ym(t:abO)(a k:Nat):ls (t.extract a (a+k))=((ls t).drop a).take k:=by
 unfold ls;rw[Lib.extract_data]
 congr 1
 omega
theorem sd(h:a+k<=t.size):bp t a 0 k=(t.extract a (a+k),a+k,0):=by
 unfold bp;rw[if_pos rfl,if_pos (by simp[jQ];omega)];simp
theorem Cc(h:¬a+k<=t.size):bp t a 0 k=(⟨#[]⟩,a,5):=by
 unfold bp;rw[if_pos rfl,Fl (by simp[jQ];omega)]
theorem jN(_ha:a<=t.size)(h:(bp t a 0 k).2.2=0):a+k<=t.size/\(ls t).drop a=ls (bp t a 0 k).1++(ls t).drop (a+k)/\(bp t a 0 k).2.1=a+k/\(bp t a 0 k).1.size=k:=by
 by_cases b:a+k<=t.size
 ·rw[sd b];refine⟨b,?_,rfl,?_⟩
  ·simp only[Ym];rw[<-ab2,cg]
  ·show(t.extract a (a+k)).size=k;rw[aj];omega
 ·rw[Cc b]at h;simp at h
theorem si(s:abO):ls (cQ s)=Yk s.size 2++ls s:=by
 unfold cQ;unfold ls;rw[ByteArray.data_append];simp
theorem Ah(h:(bp t a 0 2).2.2≠0):(dH t a 0).2.2≠0:=by
 unfold dH;generalize bp t a 0 2=D at*;obtain⟨d,b,e⟩:=D;simp only at h⊢;unfold bp;rw[Fl h];exact h
theorem qC(ha:a<=t.size)(h:(dH t a 0).2.2=0):(dH t a 0).1.size<=65535/\(ls t).drop a=ls (cQ (dH t a 0).1)++(ls t).drop (dH t a 0).2.1/\(dH t a 0).2.1=a+2+(dH t a 0).1.size:=by
 have e:(bp t a 0 2).2.2=0:=by
  rcases Decidable.em ((bp t a 0 2).2.2=0)with b| b
  ·exact b
  ·exact absurd h (Ah b)
 obtain⟨b,i,j,l⟩:=jN (k:=2) ha e;have n:=ka (ls (bp t a 0 2).1);have c:(ls (bp t a 0 2).1).length=2:=by rw[aN];exact l
 rw[c]at n;have g:=lm _ c;unfold dH at h⊢;rw[show((2:Int))=((2:Nat):Int)from rfl]at*;rw[e,j]at h⊢;generalize o:YZ (ls (bp t a 0 ((2:Nat):Int)).1)=q at*;obtain⟨p,m,f,d⟩:=jN (k:=q) b h;refine⟨by rw[d];omega,?_,by rw[f,d]⟩;rw[i,m,si,d,g,f];simp
theorem yc:∀(l:List UInt8) (n k n' k':Nat),k<=3->rv l n k=(n',k',0)->∃m,n'=n+m*2^ (7*k)/\m<128^ (4- k)/\(0<k->0<m)/\l=ig (3- k) m++l.drop (k'- k)/\k'=k+(ig (3- k) m).length
 | [],n,k,n',k',hk,h=>by simp[rv]at h
 | b :: l,n,k,n',k',hk,h=>by
   rw[rv]at h;have hb:=b.toNat_lt;split at h
   ·rename_i t;split at h
    ·simp at h
    ·rename_i y;obtain⟨m,j,x,o,p,q⟩:=yc l (pushN n k b) (k+1) n' k' (by omega) h;have w:=o (by omega);have d:3- k=(3- (k+1))+1:=by omega
     have g:¬(b.toNat% 128+m*128<128):=by omega
     have r:(b.toNat% 128+m*128) % 128+128=b.toNat:=by omega
     have s:(b.toNat% 128+m*128) / 128=m:=by omega
     have a:ig (3- k) (b.toNat% 128+m*128)=b :: ig (3- (k+1)) m:=by
      rw[d,ig,Fl g,r,s];simp
     refine⟨b.toNat% 128+m*128,?_,?_,λ_=>by omega,?_,?_⟩
     ·rw[j];unfold pushN;rw[show 7*(k+1)=7*k+7 by omega,Nat.pow_add,iK,show(2:Nat) ^ 7=128 by rfl];generalize 2^ (7*k)=X;rw[eV X 128,<-Nat.mul_assoc];omega
     ·have v:4- k=(4- (k+1))+1:=by omega
      rw[v,Nat.pow_succ];omega
     ·rw[a];have i:k'- k=(k'- (k+1))+1:=by omega
      rw[i,ji];exact congrArg (b :: ·) p
     ·rw[a,q,bM];omega
   ·rename_i t;split at h
    ·simp at h
    ·rename_i u;simp only[bG]at h;obtain⟨rfl,rfl,-⟩:=h;have a:ig (3- k) b.toNat=[b]:=by
      rcases dh (3- k)with c| c
      ·rw[c,ig];simp
      ·obtain⟨f,d⟩:∃f,3- k=f+1:=⟨3- k- 1,by omega⟩;rw[d,ig,if_pos (by omega)];simp
     refine⟨b.toNat,?_,?_,λc=>?_,?_,?_⟩
     ·unfold pushN;rw[Nat.mod_eq_of_lt (by omega)]
     ·have:128^ 1<=128^ (4- k):=df (by omega) (by omega);omega
     ·rcases dh b.toNat with e| e
      ·exact absurd ⟨e,c⟩ u
      ·exact e
     ·rw[a];simp
     ·rw[a];rfl
theorem mE{l:List UInt8}(h:YT l=(n,k,0)):l=eP n++l.drop k/\k=(eP n).length/\n<=268435455:=by
 obtain⟨m,a,d,_,b,c⟩:=yc l 0 0 n k (by omega) h;simp at a d b c;subst a;exact⟨b,by simpa [eP]using c,by omega⟩
theorem mw(ha:a<=t.size)(h:(dd t a 0).2.2=0):(ls t).drop a=ls (cQ (dd t a 0).1)++(ls t).drop (dd t a 0).2.1/\(dd t a 0).2.1=a+2+(dd t a 0).1.size/\(dd t a 0).2.1<=t.size:=by
 have b:(dH t a 0).2.2=0:=by
  unfold dd at h;simp only at h;split at h
  ·exact absurd h (by decide)
  ·exact h
 obtain⟨_,c,d⟩:=qC ha b;exact⟨c,d,(lH ha 0).2⟩
theorem yT(h:e≠0):(dd t a e).2.2=e:=by
 have b:(dH t a e).2.2=e:=by
  unfold dH bp;simp[h]
 unfold dd;simp only[b];rw[Fl (λx=>h x.1)]
theorem yY{sh:Nat}(h1:1<=sh)(h7:sh<=7)(ha:a<=t.size)(h:(dW sh t a).err=0)(id:Int):
  (ls t).drop a=ls (YX sh ⟨id,(dW sh t a).n,(dW sh t a).text,(dW sh t a).value⟩)++(ls t).drop (dW sh t a).at_/\(dW sh t a).at_=a+(YX sh ⟨id,(dW sh t a).n,(dW sh t a).text,(dW sh t a).value⟩).size:=by
 have g:∀n k:Nat,(⟨(Yk n k).toArray⟩:abO).size=k:=λn k=>by show(Yk n k).toArray.size=k;simp[fM]
 have f:sh=1\/sh=2\/sh=3\/sh=4\/sh=5\/sh=6\/sh=7:=by omega
 rcases f with rfl| rfl| rfl| rfl| rfl| rfl| rfl
 ·have e:dW 1 t a=⟨YZ (ls (bp t a 0 1).1),⟨#[]⟩,⟨#[]⟩,(bp t a 0 1).2.1,(bp t a 0 1).2.2⟩:=rfl;rw[e]at h⊢;obtain⟨b1,b2,b,c⟩:=jN (k:=1) ha h;have d:=pZ (ls (bp t a 0 ((1:Nat):Int)).1) (by rw[aN];exact c);show _=ls (⟨(Yk _ 1).toArray⟩:abO)++_/\_=a+(⟨(Yk _ 1).toArray⟩:abO).size;rw[g,jo];simp only;rw[show((1:Int))=((1:Nat):Int)from rfl,d,b];exact⟨b2,rfl⟩
 ·have e:dW 2 t a=⟨YZ (ls (bp t a 0 2).1),⟨#[]⟩,⟨#[]⟩,(bp t a 0 2).2.1,(bp t a 0 2).2.2⟩:=rfl;rw[e]at h⊢;obtain⟨b1,b2,b,c⟩:=jN (k:=2) ha h;have d:=lm (ls (bp t a 0 ((2:Nat):Int)).1) (by rw[aN];exact c);show _=ls (⟨(Yk _ 2).toArray⟩:abO)++_/\_=a+(⟨(Yk _ 2).toArray⟩:abO).size;rw[g,jo];simp only;rw[show((2:Int))=((2:Nat):Int)from rfl,d,b];exact⟨b2,rfl⟩
 ·have e:dW 3 t a=⟨YZ (ls (bp t a 0 4).1),⟨#[]⟩,⟨#[]⟩,(bp t a 0 4).2.1,(bp t a 0 4).2.2⟩:=rfl;rw[e]at h⊢;obtain⟨b1,b2,b,c⟩:=jN (k:=4) ha h;have d:=BE (ls (bp t a 0 ((4:Nat):Int)).1) (by rw[aN];exact c);show _=ls (⟨(Yk _ 4).toArray⟩:abO)++_/\_=a+(⟨(Yk _ 4).toArray⟩:abO).size;rw[g,jo];simp only;rw[show((4:Int))=((4:Nat):Int)from rfl,d,b];exact⟨b2,rfl⟩
 ·have e:dW 4 t a=⟨(mz t a).1,⟨#[]⟩,⟨#[]⟩,(mz t a).2.1,(mz t a).2.2⟩:=rfl;rw[e]at h⊢;simp only at h;show _=ls (⟨(eP _).toArray⟩:abO)++_/\_=a+(⟨(eP _).toArray⟩:abO).size;unfold mz at h⊢;generalize o:YT ((ls t).drop a)=R at*;obtain⟨n,k,x⟩:=R;simp only at h⊢;by_cases l:x=0
  ·subst l;rw[if_pos rfl];simp only;obtain⟨q,r,_⟩:=mE o;have j:(⟨(eP n).toArray⟩:abO).size=(eP n).length:=by show(eP n).toArray.size=_;simp
   rw[j,jo,<-r,<-ab2];exact⟨q,rfl⟩
  ·rw[Fl l]at h;simp at h
 ·have e:dW 5 t a=⟨0,(dd t a 0).1,⟨#[]⟩,(dd t a 0).2.1,(dd t a 0).2.2⟩:=rfl;rw[e]at h⊢;obtain⟨b1,b2,_⟩:=mw ha h;show _=ls (cQ _)++_/\_=a+(cQ _).size;rw[eN];exact⟨b1,by simp only;omega⟩
 ·have e:dW 6 t a=⟨0,(dH t a 0).1,⟨#[]⟩,(dH t a 0).2.1,(dH t a 0).2.2⟩:=rfl;rw[e]at h⊢;obtain⟨_,b1,b2⟩:=qC ha h;show _=ls (cQ _)++_/\_=a+(cQ _).size;rw[eN];exact⟨b1,by simp only;omega⟩
 ·have e:dW 7 t a=⟨0,(jJ t a 0).1.1,(jJ t a 0).1.2,(jJ t a 0).2.1,(jJ t a 0).2.2⟩:=rfl;rw[e]at h⊢;show _=ls (cQ _++cQ _)++_/\_=a+(cQ _++cQ _).size;have p:∀x y:abO,ls (x++y)=ls x++ls y:=λx y=>by unfold ls;rw[ByteArray.data_append];simp
  rw[p,cK,eN,eN];unfold jJ at h⊢;simp only at h⊢;have i:(dd t a 0).2.2=0:=by
   rcases Decidable.em ((dd t a 0).2.2=0)with h1| h1
   ·exact h1
   ·rw[yT h1]at h;exact absurd h h1
  obtain⟨b1,b2,b⟩:=mw ha i;rw[i]at h⊢;obtain⟨m,s,_⟩:=mw b h;rw[List.append_assoc,<-m];exact⟨b1,by omega⟩
theorem xd{b:UInt8}{rest:List UInt8}(h:(ls t).drop a=b :: rest):Y4 t a=b.toNat/\a<t.size/\(ls t).drop (a+1)=rest:=by
 have d:a<t.size:=by
  have:=congrArg List.length h;rw[bU,bM,aN]at this;omega
 have c:=bQ (show a<(ls t).length by rw[aN];exact d);rw[h]at c;simp only[gY]at c;refine⟨?_,d,c.2.symm⟩;unfold Y4;rw[List.getD,List.getElem?_eq_getElem (show a<(ls t).length by rw[aN];exact d)];simp[<-c.1]
theorem oN(kind:Int)(t:abO):∀(m a:Nat) (f:Nat->Nat) (out r:List Pr),a<=t.size->out.length<=1000->iy kind t m a f out=(r,0)->
  ∃l,r=out++l/\(ls t).drop a=l.flatMap jI/\ckL kind l/\oK kind f l/\jp (λk=>f k+cnt k l)=false/\r.length<=1000
 | 0,a,f,out,r,_,_,h=>by simp[iy]at h
 | m+1,a,f,out,r,ha,hol,h=>by
   rw[iy]at h;by_cases hend:t.size<=a
   ·rw[if_pos hend]at h;cases hlo:jp f
    ·rw[hlo]at h;simp at h;refine⟨[],by simp[h],?_,λp hp=>by simp at hp,λp hp=>by simp at hp,?_,by rw[<-h];exact hol⟩
     ·rw[gD (by rw[aN];exact hend)];rfl
     ·have:(λk=>f k+cnt k [])=f:=by funext k;simp[cnt]
      rw[this];exact hlo
    ·rw[hlo]at h;simp at h
   ·rw[Fl hend]at h;have B:a<t.size:=by omega
    have z:=bQ (show a<(ls t).length by rw[aN];exact B);obtain⟨G,_,H⟩:=xd z;by_cases A:ng (cr (Y4 t a)) kind=false
    ·rw[if_pos A]at h;simp at h
    ·rw[Fl A]at h;by_cases j:(dW (cr (Y4 t a)).shape t (a+1)).err=0
     ·rw[Fl (by simpa using j)]at h;generalize w:(⟨Y4 t a,(dW (cr (Y4 t a)).shape t (a+1)).n,(dW (cr (Y4 t a)).shape t (a+1)).text,(dW (cr (Y4 t a)).shape t (a+1)).value⟩:Pr)=P at h;have b:P.id=(Y4 t a:Int):=by rw[<-w]
      by_cases i:de (cr (Y4 t a)) kind P=0
      ·rw[Fl (by simpa using i)]at h;by_cases g:iC f kind (Y4 t a)=true
       ·rw[if_pos g]at h;simp at h
       ·rw[Fl g]at h;by_cases d:out.length=1000
        ·rw[if_pos d]at h;simp at h
        ·rw[Fl d]at h;have o:de (cr P.id) kind P=0:=by rw[b];exact i
         obtain⟨_,C,D,_⟩:=nr o;have e:gH P.id=(cr (Y4 t a)).shape:=by rw[b];rfl
         rw[e]at C D;obtain⟨b1,b2⟩:=yY C D (show a+1<=t.size by omega) j (Y4 t a);rw[w,<-e]at b1 b2;have y:=(xO (show a+1<=t.size by omega) (cr (Y4 t a)).shape).2;obtain⟨l,I,J,K,E,F,L⟩:=oN kind t m _ _ (out++[P]) r y (by rw[List.length_append];simp;omega) h;have c:P.id.toNat=Y4 t a:=by rw[b];simp
         have s:¬(1<=f P.id.toNat/\gS kind P.id.toNat=false):=λx=>g (by rw[c]at x;exact(kU _ _ _).2 x);rw[<-c]at E F;refine⟨P :: l,by rw[I];simp,?_,?_,(Zv kind f P l s).1 E,?_,L⟩
         ·rw[z,YS,H]at*;rw[b1,e,J,<-e];unfold jI;rw[c,G];simp
         ·intro q v;rcases ie.1 v with rfl| v
          ·exact o
          ·exact K q v
         ·have:(λk=>upd f P.id.toNat (f P.id.toNat+1) k+cnt k l)=λk=>f k+cnt k (P :: l):=by
           funext k;rw[lJ];unfold upd;by_cases u:k=P.id.toNat
           ·subst u;simp;omega
           ·rw[Fl u,Fl (λx=>u x.symm)];rfl
          rw[<-this];exact F
      ·rw[if_pos (by simpa using i)]at h;simp only[bG]at h;exact absurd h.2 i
     ·rw[if_pos (by simpa using j)]at h;simp only[bG]at h;exact absurd h.2 j
theorem wU{l:List Pr}(h:fq kind t=(l,0)):ls t=l.flatMap jI/\okL kind l/\l.length<=1000:=by
 obtain⟨g,a,b,c,d,e,f⟩:=oN kind t _ 0 _ [] l (by omega) (by simp) h;simp at a;subst a;exact⟨by simpa using b,(yz kind _).2 ⟨c,d,e⟩,f⟩
def aZ(kind:Int)(s:abO):List Pr×Nat×Int:=
 if(YT (ls s)).2.2≠0 then([],0,(YT (ls s)).2.2)
 else if s.size<(YT (ls s)).2.1+(YT (ls s)).1 then([],0,3)
 else if(fq kind (s.extract (YT (ls s)).2.1 ((YT (ls s)).2.1+(YT (ls s)).1))).2≠0 then([],0,(fq kind (s.extract (YT (ls s)).2.1 ((YT (ls s)).2.1+(YT (ls s)).1))).2)
 else((fq kind (s.extract (YT (ls s)).2.1 ((YT (ls s)).2.1+(YT (ls s)).1))).1,(YT (ls s)).2.1+(YT (ls s)).1,0)
theorem fd{l:List Pr}(h:aZ kind s=(l,n,0)):(aM kind l).2=0/\(aM kind l).1=(ls s).take n/\n<=s.size:=by
 unfold aZ at h;generalize j:YT (ls s)=R at h;obtain⟨m,k,x⟩:=R;simp only at h;by_cases d:x=0
 ·subst d;rw[Fl (by decide)]at h;by_cases c:s.size<k+m
  ·rw[if_pos c]at h;simp at h
  ·rw[Fl c]at h;by_cases a:(fq kind (s.extract k (k+m))).2=0
   ·rw[Fl (by simpa using a)]at h;simp only[bG]at h;obtain⟨g,i,-⟩:=h;have o:fq kind (s.extract k (k+m))=(l,0):=Prod.ext g a;obtain⟨b1,b2,f⟩:=wU o;obtain⟨e,q,r⟩:=mE j;have b:(aM kind l).2=0:=(sx kind l).2 ⟨f,b2⟩;rw[Ym]at b1;have p:(l.flatMap jI).length=m:=by
     rw[<-b1,cY,bU,aN];omega
    refine⟨b,?_,by omega⟩;rw[tE kind l b,p];simp only;generalize (ls s).drop k=D at b1 e;rw[e,<-i,q,ot,bt (by omega),show(eP m).length+m- (eP m).length=m by omega,b1]
   ·rw[if_pos (by simpa using a)]at h;simp only[bG]at h;exact absurd h.2.2 a
 ·rw[if_pos (by simpa using d)]at h;simp only[bG]at h;exact absurd h.2.2 d
theorem DX(A:Option Addr)(n c:Nat)(x y:Int)(h:x=y):Ending.returned (.tuple #[.slice A n c,.int .i64 x,.int .i64 0])= .returned (.tuple #[.slice A n c,.int .i64 y,.int .i64 0]):=by rw[h]
def yQ(r:List Pr×Nat×Int)(w:abP)(e:Ending)(w':abP):Prop:=
 ∃A c,e= .returned (.tuple #[.slice A r.1.length c,.int .i64 r.2.1,.int .i64 r.2.2])/\r.1.length<=c/\Rd w' w'.heap.size 4 A r.1.length (prs r.1)/\abQ w w'
theorem ll{r:List Pr×Nat×Int}{x:Int}{w':abP}(h:r=([],0,x))(hb:abQ w w'):yQ r w (.returned (.tuple #[.slice none 0 0,.int .i64 0,.int .i64 x])) w':=by
 subst h;exact⟨none,0,rfl,ac _,Rd.nil _ _ _ _,hb⟩
theorem Zf(kind:Int)(s:abO)(w:abP)(hs:s.size<=140737488351232):
  Calls prog 164 #[.int .i64 kind,.string s] w (yQ (aZ kind s) w):=by
 have u:=pT (ls s);have p:=jH (ls s);rw[aN]at p;have i:=aa (nO s w (by omega));have d:Hid (aZ kind s=if(YT (ls s)).2.2≠0 then([],0,(YT (ls s)).2.2)
  else if s.size<(YT (ls s)).2.1+(YT (ls s)).1 then([],0,3)
  else if(fq kind (s.extract (YT (ls s)).2.1 ((YT (ls s)).2.1+(YT (ls s)).1))).2≠0 then([],0,(fq kind (s.extract (YT (ls s)).2.1 ((YT (ls s)).2.1+(YT (ls s)).1))).2)
  else((fq kind (s.extract (YT (ls s)).2.1 ((YT (ls s)).2.1+(YT (ls s)).1))).1,(YT (ls s)).2.1+(YT (ls s)).1,0)):=aa rfl
 generalize YT (ls s)=R at*;obtain⟨n,k,x⟩:=R;simp only at u p d i;have B:=aa hs;by_cases j:x=0
 ·subst j;by_cases b:s.size<k+n
  ·have f:Hid (aZ kind s=([],0,3)):=aa (by rw[d.o,Fl (by decide),if_pos b]);have C:(s.size:Int) - (k:Int)<(n:Int):=by omega
   clear b d;go_enter func164,ntmps164;go_wp2_with fail;refine i.o.mono ?_;rintro e v ⟨rfl,a⟩;have g:=aa a;clear a
   go_wp2;go_ret3;exact ll f.o g.o
  ·have f:Hid (aZ kind s=if(fq kind (s.extract k (k+n))).2≠0 then([],0,(fq kind (s.extract k (k+n))).2)else((fq kind (s.extract k (k+n))).1,k+n,0)):=aa (by rw[d.o,Fl (by decide),Fl b]);have C:(n:Int)<=(s.size:Int) - (k:Int):=by omega
   have E:(k:Int)+(n:Int)<=(s.size:Int):=by omega
   have F:(k:Int)<=(k:Int)+(n:Int):=by omega
   have G:(0:Int)<=(k:Int):=by omega
   have H:k+n<=s.size:=by omega
   clear b d;go_enter func164,ntmps164;go_wp2_with fail;refine i.o.mono ?_;rintro e v ⟨rfl,a⟩;have g:=aa a;clear a
   go_wp2_with fail;refine(Cs kind (s.extract k (k+n)) _ (by rw[aj];have:=B.o;omega)).mono ?_;rintro e I ⟨A,c,rfl,r,h,a⟩;generalize fq kind (s.extract k (k+n))=L at*;obtain⟨l,y⟩:=L;simp only at f h r;have t:=aa h;have z:=aa r;have o:=aa (Yf g.o a);clear h r a
   by_cases m:y=0
   ·subst m;have q:Hid (aZ kind s=(l,k+n,0)):=aa (by rw[f.o,Fl (by decide)]);go_wp2;go_ret3;rw[q.o];exact⟨A,c,DX A l.length c _ _ (by simp),z.o,t.o,o.o⟩
   ·have D:(y !=0)=true:=aA.2 m;have q:Hid (aZ kind s=([],0,y)):=aa (by rw[f.o,if_pos m]);clear m;go_wp2;go_ret3;exact ll q.o o.o
 ·have f:Hid (aZ kind s=([],0,x)):=aa (by rw[d.o,if_pos j]);have D:(x !=0)=true:=aA.2 j;clear j d;go_enter func164,ntmps164;go_wp2_with fail;refine i.o.mono ?_;rintro e v ⟨rfl,a⟩;have g:=aa a;clear a
  go_wp2;go_ret3;exact ll f.o g.o
theorem oM(kind:Int)(t:abO)(ht:t.size<=140737488351232):∀(m a:Nat) (f:Nat->Nat) (out:List Pr),(∀p∈out,qc p)->∀p∈(iy kind t m a f out).1,qc p
 | 0,a,f,out,_=>by simp[iy]
 | m+1,a,f,out,ho=>by
   rw[iy];split
   ·split
    ·simp
    ·exact ho
   ·split
    ·simp
    ·split
     ·simp
     ·split
      ·simp
      ·split
       ·simp
       ·split
        ·simp
        ·apply oM kind t ht;intro p hp;rcases cj.1 hp with hp| hp
         ·exact ho p hp
         ·rw[gA.1 hp];exact xN ht _
theorem iT(hs:s.size<=140737488351232):∀p∈(aZ kind s).1,qc p:=by
 have h:∀x:abO,x.size<=140737488351232->∀p∈(fq kind x).1,qc p:=λx a=>oM kind x a _ _ _ _ (by simp);unfold aZ;split
 ·simp
 ·split
  ·simp
  ·split
   ·simp
   ·exact h _ (by rw[aj];omega)
theorem fZ(h:(aZ kind s).2.2≠0):aZ kind s=([],0,(aZ kind s).2.2):=by
 unfold aZ at h⊢;split
 ·rfl
 ·split
  ·rfl
  ·split
   ·rfl
   ·rename_i a b c;rw[Fl a,Fl b,Fl c]at h;exact absurd rfl h
theorem kj(h:(aZ kind s).2.2=0):(aZ kind s).1.length<=1000:=by
 have a:=(fd (kind:=kind) (s:=s) (l:=(aZ kind s).1) (n:=(aZ kind s).2.1) (by rw[<-h])).1;exact((sx kind _).1 a).1
theorem fe(a b:abO):ls (a++b)=ls a++ls b:=by unfold ls;rw[ByteArray.data_append];simp
