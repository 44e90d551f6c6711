/- Parts: MCnr. -/
import Derived.Test.YtooikoiladioeaaGreatDoorMqG0OrdG
set_option maxRecDepth 10000
set_option maxHeartbeats 8000000
namespace Go.Proofs.YtooikoiladioeaaGreatDoor
open Go.RowKit Go.Proofs.Tryz
section
attribute [local go_sem ↓] bD bF bH bI bu
attribute [local go_sem] bc aD bh bg bK bJ bd aY be aO ax cI dC dB dt dj di dA dr dp dn bW co bO bZ bX cz cy cw cu ct cC YB bS bP bR
theorem MS(b:Bool)(n:Int)(w:World):Calls prog 121 #[.bool b,.int .i64 n] w fun e w'=>e= .returned (.int .i64 (pc b n))/\w=w':=by
 cases b
 ·go_enter func121,ntmps121;go_wp2;go_ret;exact⟨rfl,rfl⟩
 ·go_enter func121,ntmps121;go_wp2;go_ret;exact⟨rfl,rfl⟩
theorem Te(v:Int)(hv:v=4\/v=5)(f:Nat)(hf:f<256)(w:World):
  Calls prog 165 #[.int .i64 v,.int .i64 f] w fun e w'=>e= .returned (.bool (!tu v f))/\w=w':=by
 obtain⟨b1,q⟩:∃b,((f:Int) % 2==1)=b:=⟨_,rfl⟩;obtain⟨g,j⟩:∃b,((wrap64 ((f:Int) / 8)).tmod 4==3)=b:=⟨_,rfl⟩;obtain⟨h,k⟩:∃b,((wrap64 ((f:Int) / 4)).tmod 2==1)=b:=⟨_,rfl⟩;obtain⟨i,l⟩:∃b,((wrap64 ((f:Int) / 8)).tmod 8 !=0)=b:=⟨_,rfl⟩;obtain⟨a,d⟩:∃b,(wrap64 ((f:Int) / 64)==1)=b:=⟨_,rfl⟩;obtain⟨c,m⟩:∃b,(v==4)=b:=⟨_,rfl⟩;have p:Hid ((!tu v f)=(b1 || g || (!h&&i) || (c&&a))):=aa (by
  have z:wrap64 ((f:Int) / 8)=(f:Int) / 8:=by have:=aQ ((f:Int) / 8);simp only[wrap64];omega
  have y:wrap64 ((f:Int) / 4)=(f:Int) / 4:=by simp only[wrap64];omega
  have o:wrap64 ((f:Int) / 64)=(f:Int) / 64:=by simp only[wrap64];omega
  rw[z,QP (by omega)]at j l;rw[y,QP (by omega)]at k;rw[o]at d;have r:decide (f% 2=1)=b1:=by rw[<-q,eG,cH,aK];omega
  have s:decide (f/ 8% 4=3)=g:=by rw[<-j,eG,cH,aK];omega
  have t:decide (f/ 4% 2=1)=h:=by rw[<-k,eG,cH,aK];omega
  have u:decide (f/ 8% 8≠0)=i:=by rw[<-l,eG,cH,aA];omega
  have n:decide (f/ 64=1)=a:=by rw[<-d,eG,cH,aK];omega
  have x:decide (v=4)=c:=m;rw[<-Tl hv hf];unfold SV;rw[r,s,t,u,n,x])
 generalize (!tu v f)=R at*;have A:(0:Int)<=(f:Int):=by omega
 clear hv hf;go_enter func165,ntmps165;cases b1
 focus
  cases g
  focus
   cases h
   focus
    cases i
    focus
     cases c;rotate_left
     focus
      cases a;rotate_left;rotate_left
     rotate_left 2
    rotate_left 3;rotate_left
   rotate_left 4
   focus
    cases c;rotate_left
    focus
     cases a;rotate_left;rotate_left
    rotate_left 2
   rotate_left 3
  rotate_left 7;rotate_left
 rotate_left 8;rotate_left
 all_goals
  go_wp2;go_ret;exact⟨by rw[p.o];rfl,rfl⟩
theorem Nz(A B C D E q:Int)(hA:0<=A/\A<=128)(hB:0<=B/\B<=64)(hC:0<=C/\C<=32)(hD:0<=D/\D<=4)(hE:0<=E/\E<=2):
  wrap64 (wrap64 (wrap64 (wrap64 (wrap64 (A+B)+C)+wrap64 ((wrap64 (q.tmod 4+4)).tmod 4*8))+D)+E)=A+B+C+q% 4*8+D+E:=by
 have e:=Int.tmod_lt_of_pos q (b:=4) (by decide);have f:=Int.lt_tmod_of_pos q (b:=4) (by decide);have g:=Int.mul_tdiv_add_tmod q 4;generalize q.tdiv 4=d at*;generalize q.tmod 4=t at*;have a:wrap64 (t+4)=t+4:=by simp only[wrap64];omega
 rw[a,QP (by omega)];have c:(t+4) % 4=q% 4:=by omega
 rw[c];simp only[wrap64];omega
theorem KE(p:Pk)(h:Hs)(w:World):
  Calls prog 124 #[pkV p h] w fun e w'=>e= .returned (.int .i64 (flQ p))/\Below w.heap.size w w':=by
 have o:=aa ((aq w.heap.size w).alloc (ac _) (.cells (pkC p h) PkT));have a:=Bk.fresh w PkT (pkC p h);have U:=(a.cell 0).trans (cI _ _);have E:=(a.cell 7).trans (dr _ _);have i:=(a.cell 10).trans (bW _ _);have j:=(a.cell 12).trans (bO _ _);have k:=(a.cell 14).trans (bX _ _);have l:=(a.cell 17).trans (cw _ _);have m:=(a.cell 18).trans (cu _ _)
 have r:Hid (flQ p=if p.kind=1 then pc p.hasUser 128+pc p.hasPass 64+pc p.will.retain 32+p.will.qos% 4*8+pc p.hasWill 4+pc p.clean 2 else 0):=aa rfl;clear a;go_enter func124,ntmps124
 by_cases c:p.kind=1
 rotate_left
 ·have S:(p.kind !=1)=true:=aA.2 c;have s:Hid (flQ p=0):=aa (by rw[r.o,ae c]);clear c;go_wp2;go_ret;exact⟨by rw[s.o];rfl,o.o⟩
 have S:(p.kind !=1)=false:=by rw[c];rfl
 have s:Hid (flQ p=pc p.hasUser 128+pc p.hasPass 64+pc p.will.retain 32+p.will.qos% 4*8+pc p.hasWill 4+pc p.clean 2):=aa (by rw[r.o,if_pos c]);clear c r;have f:∀b n,0<=n->0<=pc b n/\pc b n<=n:=fun b n X=>by unfold pc;split<;>omega
 have K:=aa (f p.hasUser 128 (by decide));have L:=aa (f p.hasPass 64 (by decide));have M:=aa (f p.will.retain 32 (by decide));have N:=aa (f p.hasWill 4 (by decide));have O:=aa (f p.clean 2 (by decide))
 clear f
 go_wp2_with fail
 generalize T:w.alloc (.cells (pkC p h) PkT)=W at*;clear T;have q:=fun(b:Bool) (n:Int)=>jw (W:=W) (fun x _=>(MS b n x).mono (fun e w' C=>⟨C.1,C.2▸aq _ _⟩));have F:=q p.hasUser 128;have G:=q p.hasPass 64;have H:=q p.will.retain 32;have I:=q p.hasWill 4;have J:=q p.clean 2
 have R:=cell_regrown E;have u:=cell_regrown i;have v:=cell_regrown j;have y:=cell_regrown k;have z:=cell_regrown l;have A:=cell_regrown m
 have g:=aa (fun d V=>o.o.trans ((below_regrown W d V).mono o.o.size));clear q U E i j k l m;refine wp_region_quiet_below (by as_aux_lemma=>kernel_rfl) (by as_aux_lemma=>kernel_rfl) ?_
 repeat (go_big_quiet_step (first| with_reducible exact F _ _| with_reducible exact G _ _| with_reducible exact H _ _| with_reducible exact I _ _| with_reducible exact J _ _))
 refine kE ?_;intro _ D;obtain⟨⟨B,osq⟩,t⟩:=D;subst t;have Q:=aa (g.o B osq);clear F G H I J R u v y z A g;generalize Sort.grow (redrawn _ B) osq=wq at*;have P:=aa (Nz _ _ _ _ _ p.will.qos K.o L.o M.o N.o O.o);go_wp2;go_ret;exact⟨by rw[s.o,<-P.o];rfl,Q.o⟩
theorem He(s:ByteArray)(w:World)(hs:s.size<=65535):
  Calls prog 123 #[.string s] w fun e w'=>e= .returned (.string (qE s))/\Below w.heap.size w w':=by
 have a:Hid (qE s=cQ s):=aa (if_pos hs);go_enter func123,ntmps123
 go_wp2_with fail
 refine Yg (Hw s _ hs) fun c b=>?_;go_wp2;go_ret;exact⟨by rw[a.o];rfl,b⟩
theorem QW(g a:Nat)(t:ByteArray)(e:Int)(w:World)(h:IC w g t a e):
  Calls prog 167 #[.pointer (some ⟨g,0,none⟩)] w fun e' w'=>e'= .returned (.string (rbC t a e).1)/\IC w' g t (rbC t a e).2.1 (rbC t a e).2.2/\w.grownBy w' (some g):=by
 have i:=aa h;have j:Hid (rbC t a e=if e≠0 then(⟨#[]⟩,a,e)else((dJ (t.extract a t.size)).1,a+(dJ (t.extract a t.size)).2.1,(dJ (t.extract a t.size)).2.2)):=aa rfl;obtain⟨⟨o,p,q⟩,u,f1,v⟩:=h.cells;have c:=aa h.2;clear h;go_enter func167,ntmps167
 by_cases b:e=0
 rotate_left
 ·have z:(e !=0)=true:=aA.2 b;have f:Hid (rbC t a e=(⟨#[]⟩,a,e)):=aa (by rw[j.o,if_pos b]);clear b;go_wp2;go_ret;rw[f.o];exact⟨rfl,i.o,Yn _ _⟩
 have z:(e !=0)=false:=by rw[b];rfl
 have f:Hid (rbC t a e=((dJ (t.extract a t.size)).1,a+(dJ (t.extract a t.size)).2.1,(dJ (t.extract a t.size)).2.2)):=aa (by rw[j.o,ae (fun x=>x b)]);clear b j
 go_wp2_with fail
 refine Yg (QZ g a t e _ i.o) fun B k=>?_;have l:=aa (i.o.below k);have y:=aa (hJ k (some g));clear k o p q u f1 v
 go_wp2_with fail
 refine(QC _ _ (by rw[aj];have:=c.o;omega)).mono ?_;rintro e' C ⟨rfl,rfl⟩;have d:=aa (Bu (t.extract a t.size)).1;have m:Hid ((t.extract a t.size).size=t.size- a):=aa (by rw[aj];omega);rw[m.o]at d;clear m;generalize dJ (t.extract a t.size)=r at*;obtain⟨s,n,x⟩:=r;simp only at f d⊢;obtain⟨⟨o,p,q⟩,u,f1,v⟩:=l.o.cells;have A:IntKind.i64.wrap ((a:Int)+(n:Int))=((a+n:Nat):Int):=by rw[aQ];have:=c.o;have:=d.o;omega
 go_wp2;go_ret;rw[f.o];refine⟨rfl,⟨(l.o.1.upd 2 (.int .i64 x) (cs':=Am t a x) ?_).upd 1 (.int .i64 ((a+n:Nat):Int)) (cs':=Am t (a+n) x) ?_,by have:=c.o;have:=d.o;exact⟨by show a+n<=t.size;omega,c.o.2⟩⟩,y.o.trans ((cP _ _ _ _).trans (cP _ _ _ _))⟩
 ·simp[Am]
 ·simp[Am]
theorem YC(g a:Nat)(t:ByteArray)(e:Int)(w:World)(h:IC w g t a e):
  Calls prog 166 #[.pointer (some ⟨g,0,none⟩)] w fun e' w'=>e'= .returned (.string (rtC t a e).1)/\IC w' g t (rtC t a e).2.1 (rtC t a e).2.2/\w.grownBy w' (some g):=by
 have i:=aa h;have j:Hid (rtC t a e=if e≠0 then(⟨#[]⟩,a,e)else((bL (t.extract a t.size)).1,a+(bL (t.extract a t.size)).2.1,(bL (t.extract a t.size)).2.2)):=aa rfl;obtain⟨⟨o,p,q⟩,u,f1,v⟩:=h.cells;have c:=aa h.2;clear h;go_enter func166,ntmps166
 by_cases b:e=0
 rotate_left
 ·have z:(e !=0)=true:=aA.2 b;have f:Hid (rtC t a e=(⟨#[]⟩,a,e)):=aa (by rw[j.o,if_pos b]);clear b;go_wp2;go_ret;rw[f.o];exact⟨rfl,i.o,Yn _ _⟩
 have z:(e !=0)=false:=by rw[b];rfl
 have f:Hid (rtC t a e=((bL (t.extract a t.size)).1,a+(bL (t.extract a t.size)).2.1,(bL (t.extract a t.size)).2.2)):=aa (by rw[j.o,ae (fun x=>x b)]);clear b j
 go_wp2_with fail
 refine Yg (QZ g a t e _ i.o) fun B k=>?_;have l:=aa (i.o.below k);have y:=aa (hJ k (some g));clear k o p q u f1 v
 go_wp2_with fail
 refine(Rl _ _ (by rw[aj];have:=c.o;omega)).mono ?_;rintro e' C ⟨rfl,rfl⟩;have d:=aa (uq (t.extract a t.size)).1;have m:Hid ((t.extract a t.size).size=t.size- a):=aa (by rw[aj];omega);rw[m.o]at d;clear m;generalize bL (t.extract a t.size)=r at*;obtain⟨s,n,x⟩:=r;simp only at f d⊢;obtain⟨⟨o,p,q⟩,u,f1,v⟩:=l.o.cells;have A:IntKind.i64.wrap ((a:Int)+(n:Int))=((a+n:Nat):Int):=by rw[aQ];have:=c.o;have:=d.o;omega
 go_wp2;go_ret;rw[f.o];refine⟨rfl,⟨(l.o.1.upd 2 (.int .i64 x) (cs':=Am t a x) ?_).upd 1 (.int .i64 ((a+n:Nat):Int)) (cs':=Am t (a+n) x) ?_,by have:=c.o;have:=d.o;exact⟨by show a+n<=t.size;omega,c.o.2⟩⟩,y.o.trans ((cP _ _ _ _).trans (cP _ _ _ _))⟩
 ·simp[Am]
 ·simp[Am]
attribute [local go_sem ↓high] bu sD sE
attribute [local go_sem ↓] wh
attribute [local go_sem] Cv BD mX pU pB py
theorem NX(k:Int)(b:Bool)(c:Int)(l:List Pr)(A:Option Addr)(n:Nat)(w:World):(qP #[(0,.int .i64 k),(16,.bool b),(17,.int .i64 c),(20,.slice A l.length n)]).run prog w= .ok (pkV {pk0 with kind:=k,props:=l,session:=b,code:=c} {hs0 with props:=⟨A,n⟩}) w:=by kernel_rfl
theorem NW(k:Int)(c:Bool)(a:Int)(s:ByteArray)(u p o:Bool)(l:List Pr)(A:Option Addr)(n:Nat)(w:World):(qP #[(0,.int .i64 k),(7,.bool c),(8,.int .i64 a),(9,.string s),(10,.bool u),(12,.bool p),(14,.bool o),(20,.slice A l.length n)]).run prog w= .ok (pkV {pk0 with kind:=k,props:=l,clean:=c,alive:=a,client:=s,hasUser:=u,hasPass:=p,hasWill:=o} {hs0 with props:=⟨A,n⟩}) w:=by kernel_rfl
theorem LK(v:Int)(p:Pk)(h:Hs)(w:World):
  Calls prog 173 #[.int .i64 v,pkV p h] w fun e w'=>e= .returned (pkV (kS p) (qJ p h))/\Below w.heap.size w w':=by
 have l:=ic w (.cells (pkC p h) PkT) (.cells (pkC pk0 hs0) PkT);have s:Bk ((w.alloc (.cells (pkC p h) PkT)).alloc (.cells (pkC pk0 hs0) PkT)) w.heap.size PkT (pkC p h):=(Bk.fresh w PkT (pkC p h)).alloc _;have t:Bk ((w.alloc (.cells (pkC p h) PkT)).alloc (.cells (pkC pk0 hs0) PkT)) (w.heap.size+1) PkT (pkC pk0 hs0):=by
  have:=Bk.fresh (w.alloc (.cells (pkC p h) PkT)) PkT (pkC pk0 hs0);rwa[show(w.alloc (.cells (pkC p h) PkT)).heap.size=w.heap.size+1 by simp]at this
 have f:((w.alloc (.cells (pkC p h) PkT)).alloc (.cells (pkC pk0 hs0) PkT)).heap.size=w.heap.size+2:=by simp
 generalize hW:(w.alloc (.cells (pkC p h) PkT)).alloc (.cells (pkC pk0 hs0) PkT)=W at l s t f;have m:=aa l;have D:=aa s;have z:=aa t;have Y:=aa f
 clear l s t;have k1:=fun i=>D.o.cell i;have st:=fun q k=>aW z.o q k;have X:=NX p.kind p.session p.code p.props h.props.a h.props.c;have L:=NW p.kind p.clean p.alive p.client p.hasUser p.hasPass p.hasWill p.props h.props.a h.props.c
 by_cases d:p.kind=2
 ·have T:(p.kind==2)=true:=aK.2 d;have M:Hid (qJ p h= {hs0 with props:=h.props}):=aa (by unfold qJ;rw[ae (fun y=>y.1 d)];rfl);have N:Hid (kS p= {pk0 with kind:=p.kind,props:=p.props,session:=p.session,code:=p.code}):=aa (qI d);clear d L f;go_enter func173,ntmps173;go_wp2;refine av (fz rfl _ rfl (cO z.o _ _)) rfl ?_;rw[M.o,N.o];exact⟨rfl,bT m.o m.o.size (IT _) _ _⟩
 ·have T:(p.kind==2)=false:=ar.2 d;have E:=aa d;have P:Hid (qJ p h= {hs0 with props:=h.props,wp:=(if p.hasWill=true then h.wp else hd0)}):=aa (by
   unfold qJ
   by_cases o:p.hasWill=true
   ·rw[if_pos ⟨d,o⟩,if_pos o]
   ·rw[ae (fun y=>o y.2),ae o])
  have u:=Bk.fresh W PkT (pkC pk0 hs0);rw[f]at u;have r:w.heap.size+2<(W.alloc (.cells (pkC pk0 hs0) PkT)).heap.size:=u.lt;have g:Bk (W.alloc (.cells (pkC pk0 hs0) PkT)) w.heap.size PkT (pkC p h):=D.o.alloc _;have j:Bk (W.alloc (.cells (pkC pk0 hs0) PkT)) (w.heap.size+1) PkT (pkC pk0 hs0):=z.o.alloc _;have A:Below w.heap.size w (W.alloc (.cells (pkC pk0 hs0) PkT)):=m.o.alloc m.o.size _;have C:∀q k,(zc (.pointer (some ⟨w.heap.size+2,0,none⟩)) (pkV q k)).run prog (W.alloc (.cells (pkC pk0 hs0) PkT))= .ok () (pw (W.alloc (.cells (pkC pk0 hs0) PkT)) (w.heap.size+2) (pkC q k)):=fun q k=>by
   have G:=ax W pk0 q hs0 k;have d:pw (W.alloc (.cells (pkC pk0 hs0) PkT)) (w.heap.size+2) (pkC q k)=W.alloc (.cells (pkC q k) PkT):=by
    have J:(pw (W.alloc (.cells (pkC pk0 hs0) PkT)) W.heap.size (pkC q k))=W.alloc (.cells (pkC q k) PkT):=by
     have U:(W.heap.push (.cells (pkC pk0 hs0) PkT (0,0))).setIfInBounds W.heap.size (.cells (pkC q k) PkT (0,0))=W.heap.push (.cells (pkC q k) PkT (0,0)):=by
      apply Il;intro i;rw[Array.getElem?_push]
      by_cases n:W.heap.size=i
      ·subst n;simp
      ·rw[eK n,Array.getElem?_push,ae (fun e=>n e.symm),ae (fun e=>n e.symm)]
     exact congrArg (fun x=>{W with heap:=x}) U
    rw[f]at J;exact J
   rw[f]at G;rw[d];exact G
  generalize hV:W.alloc (.cells (pkC pk0 hs0) PkT)=V at r g j A C;have R:=aa g;have S:=aa j;have NB:=aa A;have Z:=aa r
  clear g j A u d X;have f1:∀b,Bk (pw V (w.heap.size+2) b) w.heap.size PkT (pkC p h):=fun b=>(uv V (w.heap.size+2) b (by omega)).trans R.o;have j1:=fun b=>(f1 b).cell;have jl:=fun b=>Gj (f1 b);clear f1;have K:Hid (∀b,Bk (pw V (w.heap.size+2) b) (w.heap.size+1) PkT (pkC pk0 hs0)):=aa (fun b=>(uv V (w.heap.size+2) b (by omega)).trans S.o);have js:=fun b q k=>aW (K.out b) q k;have F:Hid (∀b,Below w.heap.size w (pw V (w.heap.size+2) b)):=aa (fun b=>BC V (w.heap.size+2) b NB.o (by omega));go_enter func173,ntmps173;cases B:p.hasWill<;>cases H:p.hasUser<;>cases I:p.hasPass
  all_goals
   have Q:=aa (vJ E.o B H I);have O:=aa B;rw[B,H,I]at L;go_wp2;refine av (fz rfl _ rfl (cO (K.out _) _ _)) rfl ?_;refine⟨?_,bT (F.o _) (F.o _).size (IT _) _ _⟩;rw[Q.o];rw[P.o,O.o];rfl
theorem LU{b:Bool}{p:Pk}(hn:b=decide (0<=p.alive/\p.alive<65536/\0<=p.will.qos/\p.will.qos<=2)):
   (¬0<=p.alive/\b=false)\/(0<=p.alive/\¬p.alive<65536/\b=false)\/(0<=p.alive/\p.alive<65536/\¬0<=p.will.qos/\b=false)\/(0<=p.alive/\p.alive<65536/\0<=p.will.qos/\b=decide (p.will.qos<=2)):=by
 rw[hn]
 by_cases a:0<=p.alive
 ·by_cases c:p.alive<65536
  ·by_cases d:0<=p.will.qos
   ·exact .inr (.inr (.inr ⟨a,c,d,eb.2 ⟨fun y=>y.2.2.2,fun y=>⟨a,c,d,y⟩⟩⟩))
   ·exact .inr (.inr (.inl ⟨a,c,d,ah (fun y=>d y.2.2.1)⟩))
  ·exact .inr (.inl ⟨a,c,ah (fun y=>c y.2.1)⟩)
 ·exact .inl ⟨a,ah (fun y=>a y.1)⟩
theorem KH(v:Int)(p:Pk)(h:Hs)(w:World)(ip:PkIn w w.heap.size p h)(ok:PkOk p):
  Calls prog 109 #[.int .i64 v,pkV p h] w fun e w'=>e= .returned (.bool (kT v p))/\Below w.heap.size w w':=by
 have OK:=aa ok;have s:=aa ((St.start w).push ip);have U:(w.alloc (.cells (pkC p h) PkT)).heap.size=w.heap.size+1:=by simp
 generalize hW:w.alloc (.cells (pkC p h) PkT)=W at s U;have HZ:=aa U;clear U
 have X:Hid (kT v p=(ba v&&(gm p.kind&&(decide (p=kS p)&&dU v p)))):=aa rfl;have r:Hid (dU v p=if v=4/\0<p.props.length+p.will.props.length then false
  else if p.kind=2 then i9 v p&&(decide (p.code=0) || !p.session)
  else if v=4/\((p.client.size=0/\p.clean=false)\/(p.hasPass=true/\p.hasUser=false))then false
  else decide (0<=p.alive/\p.alive<65536/\0<=p.will.qos/\p.will.qos<=2)):=aa rfl
 have Q:=kR p.client;have C:=jw (W:=W) (fun x c=>(pS v x).mono (by rintro e w' ⟨rfl,rfl⟩;exact⟨rfl,aq _ _⟩));have M:=jw (W:=W) (fun x c=>LK v p h x);have H:=jw (W:=W) (fun x c=>GP p (kS p) h (qJ p h) x ((s.o.below c).into 0 rfl) (E6 ((s.o.below c).into 0 rfl)) OK.o.len (Dl OK.o.len));have G:=cell_regrown (show W.cell? ⟨w.heap.size,0,none⟩=some (.int .i64 p.kind)from s.o.cell 0 rfl 0);have l0:=qp (s.o.bk 0 rfl);have o:Hid (∀d os,Below W.heap.size W (Sort.grow (redrawn W d) os)):=aa (fun d os=>below_regrown W d os);clear ip ok;go_enter func109,ntmps109;cases D:ba v
 focus
  rw[D]at C;have a:Hid (kT v p=false):=aa (by rw[X.o,D,bj]);clear D
 rotate_left;rw[D]at C;have HV:Hid (v=4\/v=5):=aa (aR D);have N:Hid (kT v p=(gm p.kind&&(decide (p=kS p)&&dU v p))):=aa (by rw[X.o,D,aL]);clear D X;cases E:gm p.kind
 focus
  have a:Hid (kT v p=false):=aa (by rw[N.o,E,bj]);have n1:(p.kind !=1)=true:=aA.2 (fun y=>by have:=Gy E;exact this (.inl y));have n2:(p.kind !=2)=true:=aA.2 (fun y=>by have:=Gy E;exact this (.inr y));clear E
 rotate_left;have HO:=aa (aR E);have I:Hid (kT v p=(decide (p=kS p)&&dU v p)):=aa (by rw[N.o,E,aL]);clear E N;obtain⟨sm,T⟩:∃b:Bool,decide (p=kS p)=b:=⟨_,rfl⟩;rw[T]at H;have J:=aa T;clear T
 by_cases A:p.kind=2
 focus
  have n1:(p.kind !=1)=true:=aA.2 (by omega);have n2:(p.kind !=2)=false:=by simp[A]
  have e2:(p.kind==2)=true:=aK.2 A;have K:=aa A;clear A;cases sm
  focus
   have a:Hid (kT v p=false):=aa (by rw[I.o,J.o,bj])
  rotate_left;have i:Hid (kT v p=dU v p):=aa (by rw[I.o,J.o,aL])
  go_wp2_with fail
  refine wp_region_quiet_below (by kernel_rfl) (by kernel_rfl) ?_
  repeat (go_big_quiet_step (first| with_reducible exact C _ _| with_reducible exact M _ _| with_reducible exact H _ _))
  refine kE ?_;intro _ B;obtain⟨⟨z,osq⟩,n⟩:=B;subst n;have f:=aa (s.o.below (o.o z osq));clear C M H G l0 o;generalize Sort.grow (redrawn _ z) osq=wq at*;have G:=f.o.cell 0 rfl;rcases HV.o with g| g
  ·have e4:(v==4)=true:=aK.2 g;have e5:(v==5)=false:=ar.2 (by omega)
   by_cases hp:0<p.props.length
   ·have a:Hid (kT v p=false):=aa (by rw[i.o,r.o,if_pos ⟨g,by omega⟩]);clear g;go_wp2;go_ret;exact⟨by rw[a.o];rfl,f.o.kept⟩
   by_cases hw:0<p.will.props.length
   ·have a:Hid (kT v p=false):=aa (by rw[i.o,r.o,if_pos ⟨g,by omega⟩]);clear g;go_wp2;go_ret;exact⟨by rw[a.o];rfl,f.o.kept⟩
   have l:¬(v=4/\0<p.props.length+p.will.props.length):=fun y=>by omega
   have j:Hid (kT v p=(ww p.code&&(decide (p.code=0) || !p.session))):=aa (by rw[i.o,r.o,ae l,if_pos K.o];unfold i9;rw[if_pos g]);clear g l
   go_wp2_with fail
   refine Yg (KD p.code _) fun w3 V=>?_;subst V;have t:=f;cases k:ww p.code
   ·have a:Hid (kT v p=false):=aa (by rw[j.o,k];rfl);clear k;go_wp2;go_ret;exact⟨by rw[a.o];rfl,t.o.kept⟩
   by_cases F:p.session=true
   ·have a:Hid (kT v p=decide (p.code=0)):=aa (by rw[j.o,k,F];simp);clear k;have hd:decide (p.code=0)=(p.code==0):=by rfl
    go_wp2;go_ret;exact⟨by rw[a.o];first| rfl| simp,t.o.kept⟩
   ·have S:p.session=false:=by simpa using F
    have a:Hid (kT v p=true):=aa (by rw[j.o,k,S];simp);clear k F;go_wp2;go_ret;exact⟨by rw[a.o];rfl,t.o.kept⟩
  ·have e4:(v==4)=false:=ar.2 (by omega);have e5:(v==5)=true:=aK.2 g;have l:¬(v=4/\0<p.props.length+p.will.props.length):=fun y=>by omega
   have j:Hid (kT v p=(may 2 p.code&&(decide (p.code=0) || !p.session))):=aa (by rw[i.o,r.o,ae l,if_pos K.o];unfold i9;rw[ae (fun y=>by omega),K.o]);clear g l
   go_wp2_with fail
   refine Yg (Ht 2 p.code _) fun w3 V=>?_;have t:=aa (f.o.below V);clear V G
   have G:=t.o.cell 0 rfl;cases k:may 2 p.code
   ·have a:Hid (kT v p=false):=aa (by rw[j.o,k];rfl);clear k;go_wp2;go_ret;exact⟨by rw[a.o];rfl,t.o.kept⟩
   by_cases F:p.session=true
   ·have a:Hid (kT v p=decide (p.code=0)):=aa (by rw[j.o,k,F];simp);clear k;have hd:decide (p.code=0)=(p.code==0):=by rfl
    go_wp2;go_ret;exact⟨by rw[a.o];first| rfl| simp,t.o.kept⟩
   ·have S:p.session=false:=by simpa using F
    have a:Hid (kT v p=true):=aa (by rw[j.o,k,S];simp);clear k F;go_wp2;go_ret;exact⟨by rw[a.o];rfl,t.o.kept⟩
 rotate_left
 focus
  have n1:(p.kind !=1)=false:=by have:p.kind=1:=HO.o.resolve_right A;simp[this]
  have e2:(p.kind==2)=false:=ar.2 A;have K:=aa A;clear A;cases sm
  focus
   have a:Hid (kT v p=false):=aa (by rw[I.o,J.o,bj])
  rotate_left;have i:Hid (kT v p=dU v p):=aa (by rw[I.o,J.o,aL])
  go_wp2_with fail
  refine wp_region_quiet_below (by kernel_rfl) (by kernel_rfl) ?_
  repeat (go_big_quiet_step (first| with_reducible exact C _ _| with_reducible exact M _ _| with_reducible exact H _ _))
  refine kE ?_;intro _ B;obtain⟨⟨z,osq⟩,n⟩:=B;subst n;have f:=aa (s.o.below (o.o z osq));clear C M H G l0 o;generalize Sort.grow (redrawn _ z) osq=wq at*;have G:=f.o.cell 0 rfl;rcases HV.o with g| g
  ·have e4:(v==4)=true:=aK.2 g;have e5:(v==5)=false:=ar.2 (by omega)
   by_cases hp:0<p.props.length
   ·have a:Hid (kT v p=false):=aa (by rw[i.o,r.o,if_pos ⟨g,by omega⟩]);clear g;go_wp2;go_ret;exact⟨by rw[a.o];rfl,f.o.kept⟩
   by_cases hw:0<p.will.props.length
   ·have a:Hid (kT v p=false):=aa (by rw[i.o,r.o,if_pos ⟨g,by omega⟩]);clear g;go_wp2;go_ret;exact⟨by rw[a.o];rfl,f.o.kept⟩
   have l:¬(v=4/\0<p.props.length+p.will.props.length):=fun y=>by omega
   have j:Hid (kT v p=if v=4/\((p.client.size=0/\p.clean=false)\/(p.hasPass=true/\p.hasUser=false))then false
    else decide (0<=p.alive/\p.alive<65536/\0<=p.will.qos/\p.will.qos<=2)):=aa (by rw[i.o,r.o,ae l,ae K.o])
   have H4:=aa g;clear g l
   by_cases L:p.client.size=0/\p.clean=false
   ·have a:Hid (kT v p=false):=aa (j.o.trans (if_pos ⟨H4.o,.inl L⟩));obtain⟨ao,aI⟩:=L;rw[au ao]at Q;go_wp2;go_ret;exact⟨by rw[a.o];rfl,f.o.kept⟩
   by_cases R:p.hasPass=true/\p.hasUser=false
   ·have a:Hid (kT v p=false):=aa (j.o.trans (if_pos ⟨H4.o,.inr R⟩));obtain⟨aJ,aM⟩:=R;clear L;go_wp2
    all_goals
     go_ret;exact⟨by rw[a.o];rfl,f.o.kept⟩
   have Y:=aa (LU (j.o.trans (ae (fun y=>y.2.elim L R))));have Z:((p.client.toList.isEmpty=true/\p.clean=true)\/p.client.toList.isEmpty=false)/\((p.hasPass=true/\p.hasUser=true)\/p.hasPass=false):=by
    rw[Q]
    constructor
    ·by_cases P:p.client.size=0
     ·cases c1:p.clean
      ·exact absurd ⟨P,c1⟩ L
      ·exact .inl ⟨au P,rfl⟩
     ·exact .inr (ah P)
    ·cases P:p.hasPass
     ·exact .inr rfl
     ·cases c1:p.hasUser
      ·exact absurd ⟨P,c1⟩ R
      ·exact .inl ⟨rfl,rfl⟩
   clear L R Q;obtain⟨Z1,Z2⟩:=Z;rcases Z1 with ⟨z1,z2⟩ | z1<;>rcases Z2 with ⟨z3,z4⟩ | z3
   all_goals
    rcases Y.o with ⟨q,c⟩ | ⟨q,m,c⟩ | ⟨q,m,O,c⟩ | ⟨q,m,O,c⟩
    ·have a:=aa c;have am:p.alive<0:=by omega
     clear c q;go_wp2;go_ret;exact⟨by rw[a.o];rfl,f.o.kept⟩
    ·have a:=aa c;have u:¬p.alive<=65535:=by omega
     clear c m;go_wp2;go_ret;exact⟨by rw[a.o];rfl,f.o.kept⟩
    ·have a:=aa c;have u:p.alive<=65535:=by omega
     have an:p.will.qos<0:=by omega
     clear c m O;go_wp2;go_ret;exact⟨by rw[a.o];rfl,f.o.kept⟩
    ·have a:=aa c;have u:p.alive<=65535:=by omega
     clear c m;go_wp2;go_ret;exact⟨by rw[a.o];rfl,f.o.kept⟩
  ·have e4:(v==4)=false:=ar.2 (by omega);have e5:(v==5)=true:=aK.2 g;have l:¬(v=4/\0<p.props.length+p.will.props.length):=fun y=>by omega
   have j:Hid (kT v p=if v=4/\((p.client.size=0/\p.clean=false)\/(p.hasPass=true/\p.hasUser=false))then false
    else decide (0<=p.alive/\p.alive<65536/\0<=p.will.qos/\p.will.qos<=2)):=aa (by rw[i.o,r.o,ae l,ae K.o])
   have Y:=aa (LU (j.o.trans (ae (fun y=>by omega))));clear g l;rcases Y.o with ⟨q,c⟩ | ⟨q,m,c⟩ | ⟨q,m,O,c⟩ | ⟨q,m,O,c⟩
   ·have a:=aa c;have am:p.alive<0:=by omega
    clear c q;go_wp2;go_ret;exact⟨by rw[a.o];rfl,f.o.kept⟩
   ·have a:=aa c;have u:¬p.alive<=65535:=by omega
    clear c m;go_wp2;go_ret;exact⟨by rw[a.o];rfl,f.o.kept⟩
   ·have a:=aa c;have u:p.alive<=65535:=by omega
    have an:p.will.qos<0:=by omega
    clear c m O;go_wp2;go_ret;exact⟨by rw[a.o];rfl,f.o.kept⟩
   ·have a:=aa c;have u:p.alive<=65535:=by omega
    clear c m;go_wp2;go_ret;exact⟨by rw[a.o];rfl,f.o.kept⟩
 rotate_left
 all_goals
  go_wp2_with fail
  refine wp_region_quiet_below (by kernel_rfl) (by kernel_rfl) ?_
  repeat (go_big_quiet_step (first| with_reducible exact C _ _| with_reducible exact M _ _| with_reducible exact H _ _))
  refine kE ?_;intro _ B;obtain⟨⟨z,osq⟩,n⟩:=B;subst n;have f:=aa (s.o.below (o.o z osq));clear C M H G l0 o;generalize Sort.grow (redrawn _ z) osq=wq at*;go_wp2;go_ret;exact⟨by rw[a.o];rfl,f.o.kept⟩
end
section
attribute [local go_sem ↓] bD bF bH bI bu
attribute [local go_sem] bc aD bh bg bK bJ bd aY be aO ax cI dC dB dt dj di dA dr dp dn bW co bO bZ bX cz cy cw cu ct cC YB bS bP bR
theorem Ic(v:Int)(p:Pk)(h:Hs)(w:World)(ip:PkIn w w.heap.size p h)(ok:PkOk p):
  Calls prog 71 #[.int .i64 v,pkV p h] w fun e w'=>e= .returned (.int .i64 (eR v p))/\Below w.heap.size w w':=by
 have f:=aa ok;have t:=aa ((St.start w).push ip);have G:Hid (eR v p=if kT v p=false then 2
  else if bN p.client=false\/bN p.user=false then 6
  else if p.hasWill=true/\fp p.will.topic=false then 10
  else if 65535<p.will.payload.size\/65535<p.pass.size then 2
  else if(aM p.kind p.props).2≠0 then(aM p.kind p.props).2
  else(aM 16 p.will.props).2):=aa rfl
 have J:Hid (kT v p=(ba v&&(gm p.kind&&(decide (p=kS p)&&dU v p)))):=aa rfl;have s:=t.o.cell 0 rfl;have O:=t.o.ld 0 rfl;clear ip ok;go_enter func71,ntmps71
 go_wp2_with fail
 refine Yg (KH v p h _ (t.o.into 0 rfl) f.o) fun R g=>?_;have D:=aa (t.o.below g);clear g s O
 have s:=D.o.cell 0 rfl;cases q:kT v p
 ·have d:Hid (eR v p=2):=aa (by rw[G.o,if_pos q]);clear q;go_wp2;go_ret;exact⟨by rw[d.o];rfl,D.o.kept⟩
 have H:Hid (GI v p.kind p.props=(aM p.kind p.props).2/\GI v 16 p.will.props=(aM 16 p.will.props).2):=aa (by
  have F:dU v p=true:=by
   have:=J.o.symm.trans q;simp only[eh]at this;exact this.2.2.2
  have Q:¬(v=4/\0<p.props.length+p.will.props.length):=fun y=>by
   unfold dU at F;rw[if_pos y]at F;cases F
  exact⟨Ir (fun y=>by omega),Ir (fun y=>by omega)⟩)
 have l:Hid (eR v p=if bN p.client=false\/bN p.user=false then 6
  else if p.hasWill=true/\fp p.will.topic=false then 10
  else if 65535<p.will.payload.size\/65535<p.pass.size then 2
  else if(aM p.kind p.props).2≠0 then(aM p.kind p.props).2
  else(aM 16 p.will.props).2):=aa (by rw[G.o,ae (by rw[q];decide)])
 clear q
 go_wp2_with fail
 refine(xj p.client _ (by have:=f.o.texts;omega)).mono ?_;rintro e S ⟨rfl,rfl⟩;have I:=D;cases o:bN p.client
 ·have d:Hid (eR v p=6):=aa (by rw[l.o,if_pos (.inl o)]);clear o;go_wp2;go_ret;exact⟨by rw[d.o];rfl,I.o.kept⟩
 go_wp2_with fail
 refine(xj p.user _ (by have:=f.o.texts;omega)).mono ?_;rintro e T ⟨rfl,rfl⟩;have E:=I;cases x:bN p.user
 ·have d:Hid (eR v p=6):=aa (by rw[l.o,if_pos (.inr x)]);clear o x;go_wp2;go_ret;exact⟨by rw[d.o];rfl,E.o.kept⟩
 have m:Hid (eR v p=if p.hasWill=true/\fp p.will.topic=false then 10
  else if 65535<p.will.payload.size\/65535<p.pass.size then 2
  else if(aM p.kind p.props).2≠0 then(aM p.kind p.props).2
  else(aM 16 p.will.props).2):=aa (by rw[l.o,ae (fun y=>y.elim (fun z=>by rw[o]at z;cases z) (fun z=>by rw[x]at z;cases z))])
 clear o x;obtain⟨N,C⟩:∃b,p.hasWill=b:=⟨_,rfl⟩;cases N
 focus
  have j:Hid (eR v p=if 65535<p.will.payload.size\/65535<p.pass.size then 2
   else if(aM p.kind p.props).2≠0 then(aM p.kind p.props).2
   else(aM 16 p.will.props).2):=aa (by rw[m.o,ae (fun y=>by rw[C]at y;cases y.1)])
  have i:=E
 rotate_left
 focus
  go_wp2_with fail
  refine(Hg p.will.topic _ (by have:=f.o.texts;omega)).mono ?_;rintro e U ⟨rfl,rfl⟩;have i:=E;cases u:fp p.will.topic
  ·have d:Hid (eR v p=10):=aa (by rw[m.o,if_pos ⟨C,u⟩]);clear u;go_wp2;go_ret;exact⟨by rw[d.o];rfl,i.o.kept⟩
  have j:Hid (eR v p=if 65535<p.will.payload.size\/65535<p.pass.size then 2
   else if(aM p.kind p.props).2≠0 then(aM p.kind p.props).2
   else(aM 16 p.will.props).2):=aa (by rw[m.o,ae (fun y=>by rw[u]at y;cases y.2)])
  clear u
 rotate_left
 all_goals
  by_cases r:65535<p.will.payload.size
  ·have L:(65535:Int)<(p.will.payload.size:Int):=by omega
   have d:Hid (eR v p=2):=aa (by rw[j.o,if_pos (.inl r)]);clear r;go_wp2;go_ret;exact⟨by rw[d.o];rfl,i.o.kept⟩
  have L:(p.will.payload.size:Int)<=65535:=by omega
  by_cases A:65535<p.pass.size
  ·have M:(65535:Int)<(p.pass.size:Int):=by omega
   have d:Hid (eR v p=2):=aa (by rw[j.o,if_pos (.inr A)]);clear r A;go_wp2;go_ret;exact⟨by rw[d.o];rfl,i.o.kept⟩
  have M:(p.pass.size:Int)<=65535:=by omega
  have B:Hid (eR v p=if(aM p.kind p.props).2≠0 then(aM p.kind p.props).2 else(aM 16 p.will.props).2):=aa (by rw[j.o,ae (fun y=>y.elim r A)]);clear r A
  go_wp2_with fail
  refine Yg (Gx v p.kind p.props _ rfl f.o.props h.props.a h.props.c _ (i.o.into 0 rfl).props f.o.len.2.2.2 (i.o.into 0 rfl).caps.2.2.2) fun V g=>?_;rw[H.o.1];have n:=aa (i.o.below g);clear g s
  have s:=n.o.cell 0 rfl
  by_cases k:(aM p.kind p.props).2=0
  rotate_left
  ·have P:((aM p.kind p.props).2 !=0)=true:=aA.2 k;have d:Hid (eR v p=(aM p.kind p.props).2):=aa (by rw[B.o,if_pos k]);clear k;go_wp2;go_ret;exact⟨by rw[d.o];rfl,n.o.kept⟩
  rw[k];have d:Hid (eR v p=(aM 16 p.will.props).2):=aa (by rw[B.o,ae (fun y=>y k)]);clear k
  go_wp2_with fail
  refine Yg (Gx v 16 p.will.props _ rfl f.o.wp h.wp.a h.wp.c _ (n.o.into 0 rfl).wp f.o.len.1 (n.o.into 0 rfl).caps.1) fun W g=>?_;rw[H.o.2];have K:=aa (n.o.below g);clear g s
  go_wp2;go_ret;exact⟨by rw[d.o];rfl,K.o.kept⟩
theorem ML(v k:Int)(l:List Pr):Hq v k l=tW v k l:=rfl
theorem Wv{x:World}{g:Nat}(a b:UInt8)(hb:Bk x g 5 #[.int .u8 (a.toNat:Int),.int .u8 (b.toNat:Int)]):(convert 92 9 (.slice (some ⟨g,0,none⟩) 2 2)).run prog x= .ok (.string ⟨#[a,b]⟩) x:=
 ni 92 9 5 underlying92 underlying5 underlying9 2 (B:=x.heap.size) (l:=[a,b]) ⟨rfl,.inr ⟨g,0,rfl,hb.lt,fun j u c=>by rw[bV,hb.cell,ay];exact c⟩⟩
theorem KJ(v:Int)(p:Pk)(h:Hs)(w:World)(ip:PkIn w w.heap.size p h)(ok:PkOk p)(h2:p.kind=2):
  Calls prog 76 #[.int .i64 v,pkV p h] w fun e w'=>e= .returned (.tuple #[.string (Fg v p).1,.int .i64 (Fg v p).2])/\Below w.heap.size w w':=by
 have q:=aa ok;have r:=aa ((St.start w).push ip);have C:Hid (Fg v p=if eR v p=0 then(vP v p,0)else(⟨#[]⟩,eR v p)):=aa rfl;have D:Hid (vP v p=qK [⟨#[if p.session=true then 1 else 0]⟩,⟨(Yk p.code.toNat 1).toArray⟩,tW v p.kind p.props]):=aa rfl;have N:=r.o.ld 0 rfl;have B:=aa h2;clear ip ok h2;go_enter func76,ntmps76
 go_wp2_with fail
 refine Yg (Ic v p h _ (r.o.into 0 rfl) q.o) fun m l=>?_;have s:=aa (r.o.below l);clear l N
 by_cases j:eR v p=0
 rotate_left
 ·have W:(eR v p !=0)=true:=aA.2 j;have o:Hid (Fg v p=(⟨#[]⟩,eR v p)):=aa (by rw[C.o,ae j]);clear j;go_wp2;go_ret2;exact⟨by rw[o.o];rfl,s.o.kept⟩
 have o:Hid (Fg v p=(vP v p,0)):=aa (by rw[C.o,if_pos j]);have H:=Av j B.o;have n:=aa (Jr v p.kind p.props);obtain⟨b0,F,U⟩:∃b:UInt8,Hid ((⟨#[if p.session=true then 1 else 0]⟩:ByteArray)=⟨#[b]⟩)/\IntKind.u8.wrap (pc p.session 1)=(b.toNat:Int):=by
  cases p.session
  ·exact⟨0,aa rfl,rfl⟩
  ·exact⟨1,aa rfl,rfl⟩
 obtain⟨b1,G,V⟩:∃b:UInt8,Hid (Yk p.code.toNat 1=[b])/\IntKind.u8.wrap p.code=(b.toNat:Int):=by
  refine⟨UInt8.ofNat p.code.toNat,aa (by simp[Yk]),?_⟩;rw[GM];simp[UInt8.toNat_ofNat'];omega
 rw[j];have t:=aa (fun(x:World) M L=>G5 v p.kind p.props _ rfl q.o.props h.props.a h.props.c x M q.o.len.2.2.2 L);obtain⟨T,A⟩:∃T,tW v p.kind p.props=T:=⟨_,rfl⟩;rw[F.out,G.out,A]at D;have E:Hid (vP v p=⟨#[b0,b1]⟩++T):=aa (by
  rw[D.o];refine eX ?_;simp[qK,ls])
 simp only[ML]at t;rw[A]at t n;have S:¬(9223372036854775807<2+T.size):=by have:=n.o;omega
 have R:(⟨#[b0,b1]⟩:ByteArray).size=2:=rfl;have J:=(s.o.cell 0 rfl 0).trans (cI _ _);rw[B.o]at J;clear j H A
 go_wp2_with fail
 clear J
 go_cut [4,5] (fun a b P=>a= .string (⟨#[b0,b1]⟩++T)/\b= .int .i64 0/\St w [(w.heap.size,p,h)] P)
 case first=>
  have i:Hid (∀x,Below m.heap.size m x->St w [(w.heap.size,p,h)] x):=aa (fun x d=>s.o.below d);have f:Hid (∀x,Below m.heap.size m x->x.cell? ⟨w.heap.size,20,none⟩=some (.bool p.session)/\x.cell? ⟨w.heap.size,21,none⟩=some (.int .i64 p.code)/\x.cell? ⟨w.heap.size,0,none⟩=some (.int .i64 p.kind)/\x.cell? ⟨w.heap.size,24,none⟩=some (.slice h.props.a p.props.length h.props.c)):=aa (fun x d=>⟨((i.o x d).cell 0 rfl 20).trans (cC _ _),((i.o x d).cell 0 rfl 21).trans (YB _ _),((i.o x d).cell 0 rfl 0).trans (cI _ _),((i.o x d).cell 0 rfl 24).trans (bR _ _)⟩);apply Wq
  ·kernel_rfl
  ·intro O
   repeat (apply Wk
           focus (refine Or.inl ⟨rfl,fun x d=>?_⟩;have k:=f.o x d;go_simp;(try with_reducible rfl);done)
           try simp only[Act.put,af,am,ak])
   apply Wm (fun x d _=>(MS p.session 1 x).mono fun e y h=>⟨h.1,by rw[<-h.2];exact aq _ _⟩)
   ·rfl
   ·intro x d;have k:=f.o x d;go_simp
   repeat (apply Wk
           focus (refine Or.inl ⟨rfl,fun x d=>?_⟩;have k:=f.o x d;go_simp;(try with_reducible rfl);done)
           try simp only[Act.put,af,am,ak])
   apply Wy (fun u y=>∃g,u= .slice (some ⟨g,0,none⟩) 2 2/\Bk y g 5 #[.int .u8 (b0.toNat:Int),.int .u8 (b1.toNat:Int)]) (fun u x y h l=>by obtain⟨g,z,h2⟩:=h;exact⟨g,z,Yh h2 l⟩)
   ·rfl
   ·intro x d _;refine⟨_,_,?_,⟨x.heap.size,rfl,Bk.fresh x _ _⟩,(aq x.heap.size x).alloc (ac _) (.cells #[.int .u8 (b0.toNat:Int),.int .u8 (b1.toNat:Int)] 5)⟩;go_simp
   apply WD (v:=.string ⟨#[b0,b1]⟩)
   ·rfl
   ·intro x d K;obtain⟨g,z,h2⟩:=(show ∃g,O 7= .slice (some ⟨g,0,none⟩) 2 2/\Bk x g 5 #[.int .u8 (b0.toNat:Int),.int .u8 (b1.toNat:Int)]from K 7 (by kernel_rfl));rw[z];have Q:=Wv b0 b1 h2;go_simp
   repeat (apply Wk
           focus (refine Or.inl ⟨rfl,fun x d=>?_⟩;have k:=f.o x d;go_simp;(try with_reducible rfl);done)
           try simp only[Act.put,af,am,ak])
   apply Wm (fun x d _=>t.o x ((i.o x d).into 0 rfl).props ((i.o x d).into 0 rfl).caps.2.2.2)
   ·rfl
   ·intro x d;have k:=f.o x d;go_simp
   repeat (apply Wk
           focus (refine Or.inl ⟨rfl,fun x d=>?_⟩;have k:=f.o x d;go_simp;(try with_reducible rfl);done)
           try simp only[Act.put,af,am,ak])
   apply Wz;intro x d _;go_wp2
   go_meet
   case rel=>exact⟨rfl,rfl,i.o x d⟩
  ·kernel_rfl
 obtain⟨rfl,rfl,I⟩:=hcut;go_wp2;go_ret2;refine⟨?_,I.kept⟩;rw[o.o,E.o];rfl
theorem LI(n:Int)(h:0<=n/\n<256):∃b:UInt8,Hid (Yk n.toNat 1=[b])/\IntKind.u8.wrap n=(b.toNat:Int):=by
 refine⟨UInt8.ofNat n.toNat,aa (by simp[Yk]),?_⟩;rw[GM];simp[UInt8.toNat_ofNat'];omega
theorem Jl(a b:ByteArray):qK [a,b]=a++b:=by refine eX ?_;simp[qK,ls]
theorem Nt:qE ⟨#[77,81,84,84]⟩=i8:=by decide+kernel
theorem KL(v:Int)(p:Pk)(h:Hs)(w:World)(ip:PkIn w w.heap.size p h)(ok:PkOk p)(h2:p.kind≠2):
  Calls prog 76 #[.int .i64 v,pkV p h] w fun e w'=>e= .returned (.tuple #[.string (if eR v p=0 then(EY v p,(0:Int))else(⟨#[]⟩,eR v p)).1,.int .i64 (if eR v p=0 then(EY v p,(0:Int))else(⟨#[]⟩,eR v p)).2])/\Below w.heap.size w w':=by
 have OK:=aa ok;have S0:=aa ((St.start w).push ip);obtain⟨B,hB⟩:∃B,(if eR v p=0 then(EY v p,(0:Int))else(⟨#[]⟩,eR v p))=B:=⟨_,rfl⟩;rw[hB];have HE:=aa hB.symm;have l0:=S0.o.ld 0 rfl;have H2:=aa h2;clear ip ok h2 hB;go_enter func76,ntmps76
 go_wp2_with fail
 refine Yg (Ic v p h _ (S0.o.into 0 rfl) OK.o) fun w1 l=>?_;have S1:=aa (S0.o.below l);clear l l0
 by_cases U:eR v p=0
 rotate_left
 ·have e0:(eR v p !=0)=true:=aA.2 U;have J:Hid (B=(⟨#[]⟩,eR v p)):=aa (by rw[HE.o,ae U]);clear U;go_wp2;go_ret2;exact⟨by rw[J.o];rfl,S1.o.kept⟩
 have J:Hid (B=(EY v p,0)):=aa (by rw[HE.o,if_pos U]);have HG:=aa (OO U H2.o);have HP:=aa (mM U);rw[U];obtain⟨b0,bz,bF⟩:=LI v (by have:=HG.o.2.1;omega);obtain⟨FQ,aE⟩:∃FQ,flQ p=FQ:=⟨_,rfl⟩;have aW:Hid (flN p=FQ):=aa (by rw[<-aE];exact(if_pos HG.o.1).symm);have FF:Hid (∀x:World,Calls prog 124 #[pkV p h] x fun e w'=>e= .returned (.int .i64 FQ)/\Below x.heap.size x w'):=aa (fun x=>by rw[<-aE];exact KE p h x);clear aE;obtain⟨b1,bA,bG⟩:=LI FQ (by rw[<-aW.o];exact NA p);obtain⟨an,a0,bH⟩:∃m:Nat,Hid (p.alive.toNat=m)/\IntKind.u64.wrap p.alive=(m:Int):=⟨_,aa rfl,by rw[iZ];have:=HG.o.2.2;omega⟩;have bs:Hid (an<65536):=aa (by have:=a0.out;have:=HG.o.2.2;omega);have L:=aa (Jr v p.kind p.props);have ai:=aa (G9 p.client);have aj:Hid (yK v p=qK [i8,⟨(Yk v.toNat 1).toArray⟩,⟨(Yk (flN p).toNat 1).toArray⟩,⟨(Yk p.alive.toNat 2).toArray⟩,tW v p.kind p.props,qE p.client]):=aa rfl;rw[aW.o,a0.out,bz.out,bA.out]at aj;have TT:=aa (fun(x:World) hr hc=>G5 v p.kind p.props _ rfl OK.o.props h.props.a h.props.c x hr OK.o.len.2.2.2 hc);simp only[ML]at TT;have N1:=aa (fun x:World=>He ⟨#[77,81,84,84]⟩ x (by decide));rw[Nt]at N1;have P3:=aa (fun x:World=>GV an 2 x (by have:=bs.o;omega) (by omega) (by omega));have D4:=aa (fun x:World=>He p.client x (gL HP.o.2.1.1));rw[show((2:Nat):Int)=2 from rfl]at P3;obtain⟨T,hT⟩:∃T,tW v p.kind p.props=T:=⟨_,rfl⟩;obtain⟨M,hM⟩:∃X,i8=X:=⟨_,rfl⟩;obtain⟨X3,au⟩:∃X:ByteArray,(⟨(Yk an 2).toArray⟩:ByteArray)=X:=⟨_,rfl⟩;obtain⟨D1,aD⟩:∃X:ByteArray,qE p.client=X:=⟨_,rfl⟩;rw[hT,hM,au,aD]at aj;rw[hT]at TT L;rw[hM]at N1;rw[au]at P3;rw[aD]at D4 ai;have az:X3.size=2:=by rw[<-au,GW,fM]
 have aX:M.size=6:=by rw[<-hM];rfl
 have HL:=aa aX;have bu:=aa az
 have ay:Hid (yK v p=M++⟨#[b0,b1]⟩++X3++T++D1):=aa (by
  rw[aj.o];refine eX ?_;simp[qK,ls])
 have A:Hid ((yK v p).size<=131140700):=aa (by
  rw[ay.o];simp only[cK];have:=L.o;have:=ai.o
  show M.size+2+X3.size+T.size+D1.size<=_;omega)
 have bB:(⟨#[b0,b1]⟩:ByteArray).size=2:=rfl;have bC:¬(9223372036854775807<10+T.size):=by have:=L.o;omega
 have bD:¬(9223372036854775807<10+T.size+D1.size):=by have:=L.o;have:=ai.o;omega
 have k0:=(S1.o.cell 0 rfl 0).trans (cI _ _);have e2:(p.kind==2)=false:=ar.2 H2.o;have t:Hid (p.user.size<=65535/\p.pass.size<=65535/\p.will.payload.size<=65535/\(p.hasWill=true->p.will.topic.size<=65535)):=aa ⟨gL HP.o.2.1.2,HP.o.2.2.2.1.2,HP.o.2.2.2.1.1,fun y=>gL (uV (HP.o.2.2.1 y))⟩;clear U hT hM au aD HP
 go_wp2_with fail
 clear k0
 go_cut [7] (fun a wx=>a= .string (M++⟨#[b0,b1]⟩++X3++T++D1)/\St w [(w.heap.size,p,h)] wx)
 case first=>
  have S:Hid (∀x,Below w1.heap.size w1 x->St w [(w.heap.size,p,h)] x):=aa (fun x i=>S1.o.below i);have n:Hid (∀x,Below w1.heap.size w1 x->(kZ (.pointer (some ⟨w.heap.size,0,none⟩))).run prog x= .ok (pkV p h) x/\x.cell? ⟨w.heap.size,0,none⟩=some (.int .i64 p.kind)/\x.cell? ⟨w.heap.size,8,none⟩=some (.int .i64 p.alive)/\x.cell? ⟨w.heap.size,9,none⟩=some (.string p.client)/\x.cell? ⟨w.heap.size,24,none⟩=some (.slice h.props.a p.props.length h.props.c)):=aa (fun x i=>⟨(S.o x i).ld 0 rfl,((S.o x i).cell 0 rfl 0).trans (cI _ _),((S.o x i).cell 0 rfl 8).trans (dp _ _),((S.o x i).cell 0 rfl 9).trans (dn _ _),((S.o x i).cell 0 rfl 24).trans (bR _ _)⟩);apply Wq
  ·kernel_rfl
  ·intro vs
   repeat (apply Wk
           focus (refine Or.inl ⟨rfl,fun x i=>?_⟩;have F:=n.o x i;go_simp;(try with_reducible rfl);done)
           try simp only[Act.put,af,am,ak])
   apply Wm (fun x i _=>N1.o x)
   ·rfl
   ·intro x i;have F:=n.o x i;go_simp
   repeat (apply Wk
           focus (refine Or.inl ⟨rfl,fun x i=>?_⟩;have F:=n.o x i;go_simp;(try with_reducible rfl);done)
           try simp only[Act.put,af,am,ak])
   apply Wm (fun x i _=>FF.o x)
   ·rfl
   ·intro x i;have F:=n.o x i;go_simp
   repeat (apply Wk
           focus (refine Or.inl ⟨rfl,fun x i=>?_⟩;have F:=n.o x i;go_simp;(try with_reducible rfl);done)
           try simp only[Act.put,af,am,ak])
   apply Wy (fun u y=>∃g,u= .slice (some ⟨g,0,none⟩) 2 2/\Bk y g 5 #[.int .u8 (b0.toNat:Int),.int .u8 (b1.toNat:Int)]) (fun u x y h l=>by obtain⟨g,h1,h2⟩:=h;exact⟨g,h1,Yh h2 l⟩)
   ·rfl
   ·intro x i _;refine⟨_,_,?_,⟨x.heap.size,rfl,Bk.fresh x _ _⟩,(aq x.heap.size x).alloc (ac _) (.cells #[.int .u8 (b0.toNat:Int),.int .u8 (b1.toNat:Int)] 5)⟩;go_simp
   apply WD (v:=.string ⟨#[b0,b1]⟩)
   ·rfl
   ·intro x i hH;obtain⟨g,h1,h2⟩:=(show ∃g,vs 6= .slice (some ⟨g,0,none⟩) 2 2/\Bk x g 5 #[.int .u8 (b0.toNat:Int),.int .u8 (b1.toNat:Int)]from hH 6 (by kernel_rfl));rw[h1];have cc:=Wv b0 b1 h2;go_simp
   repeat (apply Wk
           focus (refine Or.inl ⟨rfl,fun x i=>?_⟩;have F:=n.o x i;go_simp;(try with_reducible rfl);done)
           try simp only[Act.put,af,am,ak])
   apply Wm (fun x i _=>P3.o x)
   ·rfl
   ·intro x i;have F:=n.o x i;go_simp
   repeat (apply Wk
           focus (refine Or.inl ⟨rfl,fun x i=>?_⟩;have F:=n.o x i;go_simp;(try with_reducible rfl);done)
           try simp only[Act.put,af,am,ak])
   apply Wm (fun x i _=>TT.o x ((S.o x i).into 0 rfl).props ((S.o x i).into 0 rfl).caps.2.2.2)
   ·rfl
   ·intro x i;have F:=n.o x i;go_simp
   repeat (apply Wk
           focus (refine Or.inl ⟨rfl,fun x i=>?_⟩;have F:=n.o x i;go_simp;(try with_reducible rfl);done)
           try simp only[Act.put,af,am,ak])
   apply Wm (fun x i _=>D4.o x)
   ·rfl
   ·intro x i;have F:=n.o x i;go_simp
   repeat (apply Wk
           focus (refine Or.inl ⟨rfl,fun x i=>?_⟩;have F:=n.o x i;go_simp;(try with_reducible rfl);done)
           try simp only[Act.put,af,am,ak])
   apply Wz;intro x i _;go_wp2
   go_meet
   case rel=>exact⟨rfl,S.o x i⟩
  ·kernel_rfl
 obtain⟨rfl,a2⟩:=hcut;have C:=aa a2;clear a2 FF TT N1 P3 D4 bF bG bH az aX bB bC bD e2;rw[<-ay.o];have z:Hid (yJ v p=if p.hasWill=true then qK [yK v p,tW v 16 p.will.props,qE p.will.topic,qE p.will.payload]else yK v p):=aa rfl;have j:Hid (yI v p=if p.hasUser=true then qK [yJ v p,qE p.user]else yJ v p):=aa rfl;have f:Hid (EY v p=if p.hasPass=true then qK [yI v p,qE p.pass]else yI v p):=aa rfl;obtain⟨o,aY⟩:∃O,yK v p=O:=⟨_,rfl⟩;rw[aY]at A z⊢;clear aY aj ay L ai HL bu;have a4:=(C.o.cell 0 rfl 14).trans (bX _ _);obtain⟨wb,a3⟩:∃b,p.hasWill=b:=⟨_,rfl⟩;rw[a3]at a4 z t;clear a3;cases wb
 ·rw[ae (by decide)]at z;rw[z.o]at j;have uk:=(C.o.cell 0 rfl 10).trans (bW _ _);obtain⟨ub,Y⟩:∃b,p.hasUser=b:=⟨_,rfl⟩;rw[Y]at uk j;clear Y;cases ub
  ·rw[ae (by decide)]at j;rw[j.o]at f;have H:=(C.o.cell 0 rfl 12).trans (bO _ _);obtain⟨qb,r⟩:∃b,p.hasPass=b:=⟨_,rfl⟩;rw[r]at H f;clear r;cases qb
   ·rw[ae (by decide)]at f;go_wp2;go_ret2;exact⟨by rw[J.o,f.o];rfl,C.o.kept⟩
   ·rw[if_pos rfl]at f;have qf:=(C.o.cell 0 rfl 13).trans (bZ _ _)
    go_wp2_with fail
    refine Yg (He p.pass _ t.o.2.1) fun yq l=>?_;have bv:=aa (C.o.below l);clear l H qf
    have s:=aa (G9 p.pass);obtain⟨k,q⟩:∃X,qE p.pass=X:=⟨_,rfl⟩;rw[q]at f s⊢;clear q;have qs:¬(9223372036854775807<o.size+k.size):=by have:=A.o;have:=s.out;omega
    have D:Hid ((o++k).size<=131280700):=aa (by rw[cK];have:=A.o;have:=s.out;omega);have G:qK [o,k]=o++k:=Jl _ _;rw[G]at f;clear G;obtain⟨ca,bd⟩:∃O,o++k=O:=⟨_,rfl⟩;rw[bd]at f D;go_wp2;go_ret2;exact⟨by rw[J.o,f.o];rfl,bv.o.kept⟩
  ·rw[if_pos rfl]at j;have uf:=(C.o.cell 0 rfl 11).trans (co _ _)
   go_wp2_with fail
   refine Yg (He p.user _ t.o.1) fun yu l=>?_;have ao:=aa (C.o.below l);clear l uk uf
   have uD:=aa (G9 p.user);obtain⟨I,V⟩:∃X,qE p.user=X:=⟨_,rfl⟩;rw[V]at j uD⊢;clear V;have us:¬(9223372036854775807<o.size+I.size):=by have:=A.o;have:=uD.out;omega
   have E:Hid ((o++I).size<=131210700):=aa (by rw[cK];have:=A.o;have:=uD.out;omega);have uc:qK [o,I]=o++I:=Jl _ _;rw[uc]at j;clear uc;obtain⟨Q,bf⟩:∃O,o++I=O:=⟨_,rfl⟩;rw[bf]at j E;rw[j.o]at f;have H:=(ao.o.cell 0 rfl 12).trans (bO _ _);obtain⟨qb,r⟩:∃b,p.hasPass=b:=⟨_,rfl⟩;rw[r]at H f;clear r;cases qb
   ·rw[ae (by decide)]at f;go_wp2;go_ret2;exact⟨by rw[J.o,f.o];rfl,ao.o.kept⟩
   ·rw[if_pos rfl]at f;have qf:=(ao.o.cell 0 rfl 13).trans (bZ _ _)
    go_wp2_with fail
    refine Yg (He p.pass _ t.o.2.1) fun yq l=>?_;have a8:=aa (ao.o.below l);clear l H qf
    have s:=aa (G9 p.pass);obtain⟨k,q⟩:∃X,qE p.pass=X:=⟨_,rfl⟩;rw[q]at f s⊢;clear q;have qs:¬(9223372036854775807<Q.size+k.size):=by have:=E.o;have:=s.out;omega
    have D:Hid ((Q++k).size<=131280700):=aa (by rw[cK];have:=E.o;have:=s.out;omega);have G:qK [Q,k]=Q++k:=Jl _ _;rw[G]at f;clear G;obtain⟨bN,aS⟩:∃O,Q++k=O:=⟨_,rfl⟩;rw[aS]at f D;go_wp2;go_ret2;exact⟨by rw[J.o,f.o];rfl,a8.o.kept⟩
 ·rw[if_pos rfl]at z;have N:Hid ((tW v 16 p.will.props).size<=131075004/\(qE p.will.topic).size<=65537/\(qE p.will.payload).size<=65537):=aa ⟨Jr _ _ _,G9 _,G9 _⟩;have q0:∀(d:Nat) (os:Array Obj),Calls prog 122 #[.int .i64 v,.int .i64 16,.slice h.wp.a p.will.props.length h.wp.c] (Sort.grow (redrawn wc d) os) fun e bL=>e= .returned (.string (tW v 16 p.will.props))/\∃p:Regrown,bL=Sort.grow (redrawn wc p.d) p.os:=jw (fun x i=>G5 v 16 p.will.props _ rfl OK.o.wp h.wp.a h.wp.c x ((C.o.below i).into 0 rfl).wp OK.o.len.1 ((C.o.below i).into 0 rfl).caps.1);have q1:=jw (W:=wc) (fun x i=>He p.will.topic x (t.o.2.2.2 rfl));have q2:=jw (W:=wc) (fun x i=>He p.will.payload x t.o.2.2.1);obtain⟨WT,aH⟩:∃X,tW v 16 p.will.props=X:=⟨_,rfl⟩;obtain⟨WA,aF⟩:∃X,qE p.will.topic=X:=⟨_,rfl⟩;obtain⟨WB,aG⟩:∃X,qE p.will.payload=X:=⟨_,rfl⟩;rw[aH,aF,aG]at z N;rw[aH]at q0;rw[aF]at q1;rw[aG]at q2;have bK:=cell_regrown (show wc.cell? ⟨w.heap.size,19,none⟩=some (.slice h.wp.a p.will.props.length h.wp.c)from(C.o.cell 0 rfl 19).trans (ct _ _));have bI:=cell_regrown (show wc.cell? ⟨w.heap.size,15,none⟩=some (.string p.will.topic)from(C.o.cell 0 rfl 15).trans (cz _ _));have bJ:=cell_regrown (show wc.cell? ⟨w.heap.size,16,none⟩=some (.string p.will.payload)from(C.o.cell 0 rfl 16).trans (cy _ _));have z1:¬(9223372036854775807<o.size+WT.size):=by have:=A.o;have:=N.o;omega
  have z2:¬(9223372036854775807<o.size+WT.size+WA.size):=by have:=A.o;have:=N.o;omega
  have z3:¬(9223372036854775807<o.size+WT.size+WA.size+WB.size):=by have:=A.o;have:=N.o;omega
  have aV:Hid (∀d os,Below wc.heap.size wc (Sort.grow (redrawn wc d) os)):=aa (fun d os=>below_regrown wc d os);clear aH aF aG
  go_wp2_with fail
  refine wp_region_quiet_below (by kernel_rfl) (by kernel_rfl) ?_
  repeat (go_big_quiet_step (first| with_reducible exact q0 _ _| with_reducible exact q1 _ _| with_reducible exact q2 _ _))
  refine kE ?_;intro _ bE;obtain⟨⟨dq,osq⟩,bi⟩:=bE;subst bi;have Z:=aa (C.o.below (aV.o dq osq));clear q0 q1 q2 bK bI bJ aV a4 z1 z2 z3;generalize Sort.grow (redrawn _ dq) osq=wq at*;have P:Hid ((o++WT++WA++WB).size<=262346900):=aa (by simp only[cK];have:=A.o;have:=N.o;omega);have a1:qK [o,WT,WA,WB]=o++WT++WA++WB:=by refine eX ?_;simp[qK,ls]
  rw[a1]at z;clear a1;obtain⟨K,aZ⟩:∃O,o++WT++WA++WB=O:=⟨_,rfl⟩;rw[aZ]at z P⊢;clear aZ;rw[z.o]at j;have uk:=(Z.o.cell 0 rfl 10).trans (bW _ _);obtain⟨ub,Y⟩:∃b,p.hasUser=b:=⟨_,rfl⟩;rw[Y]at uk j;clear Y;cases ub
  ·rw[ae (by decide)]at j;rw[j.o]at f;have H:=(Z.o.cell 0 rfl 12).trans (bO _ _);obtain⟨qb,r⟩:∃b,p.hasPass=b:=⟨_,rfl⟩;rw[r]at H f;clear r;cases qb
   ·rw[ae (by decide)]at f;go_wp2;go_ret2;exact⟨by rw[J.o,f.o];rfl,Z.o.kept⟩
   ·rw[if_pos rfl]at f;have qf:=(Z.o.cell 0 rfl 13).trans (bZ _ _)
    go_wp2_with fail
    refine Yg (He p.pass _ t.o.2.1) fun yq l=>?_;have bw:=aa (Z.o.below l);clear l H qf
    have s:=aa (G9 p.pass);obtain⟨k,q⟩:∃X,qE p.pass=X:=⟨_,rfl⟩;rw[q]at f s⊢;clear q;have qs:¬(9223372036854775807<K.size+k.size):=by have:=P.o;have:=s.out;omega
    have D:Hid ((K++k).size<=262486900):=aa (by rw[cK];have:=P.o;have:=s.out;omega);have G:qK [K,k]=K++k:=Jl _ _;rw[G]at f;clear G;obtain⟨cb,be⟩:∃O,K++k=O:=⟨_,rfl⟩;rw[be]at f D;go_wp2;go_ret2;exact⟨by rw[J.o,f.o];rfl,bw.o.kept⟩
  ·rw[if_pos rfl]at j;have uf:=(Z.o.cell 0 rfl 11).trans (co _ _)
   go_wp2_with fail
   refine Yg (He p.user _ t.o.1) fun yu l=>?_;have ap:=aa (Z.o.below l);clear l uk uf
   have uD:=aa (G9 p.user);obtain⟨I,V⟩:∃X,qE p.user=X:=⟨_,rfl⟩;rw[V]at j uD⊢;clear V;have us:¬(9223372036854775807<K.size+I.size):=by have:=P.o;have:=uD.out;omega
   have E:Hid ((K++I).size<=262416900):=aa (by rw[cK];have:=P.o;have:=uD.out;omega);have uc:qK [K,I]=K++I:=Jl _ _;rw[uc]at j;clear uc;obtain⟨R,bg⟩:∃O,K++I=O:=⟨_,rfl⟩;rw[bg]at j E;rw[j.o]at f;have H:=(ap.o.cell 0 rfl 12).trans (bO _ _);obtain⟨qb,r⟩:∃b,p.hasPass=b:=⟨_,rfl⟩;rw[r]at H f;clear r;cases qb
   ·rw[ae (by decide)]at f;go_wp2;go_ret2;exact⟨by rw[J.o,f.o];rfl,ap.o.kept⟩
   ·rw[if_pos rfl]at f;have qf:=(ap.o.cell 0 rfl 13).trans (bZ _ _)
    go_wp2_with fail
    refine Yg (He p.pass _ t.o.2.1) fun yq l=>?_;have a9:=aa (ap.o.below l);clear l H qf
    have s:=aa (G9 p.pass);obtain⟨k,q⟩:∃X,qE p.pass=X:=⟨_,rfl⟩;rw[q]at f s⊢;clear q;have qs:¬(9223372036854775807<R.size+k.size):=by have:=E.o;have:=s.out;omega
    have D:Hid ((R++k).size<=262486900):=aa (by rw[cK];have:=E.o;have:=s.out;omega);have G:qK [R,k]=R++k:=Jl _ _;rw[G]at f;clear G;obtain⟨bP,aT⟩:∃O,R++k=O:=⟨_,rfl⟩;rw[aT]at f D;go_wp2;go_ret2;exact⟨by rw[J.o,f.o];rfl,a9.o.kept⟩
theorem Ls(v:Int)(p:Pk)(h:Hs)(w:World)(ip:PkIn w w.heap.size p h)(ok:PkOk p):
  Calls prog 76 #[.int .i64 v,pkV p h] w fun e w'=>e= .returned (.tuple #[.string (Dm v p).1,.int .i64 (Dm v p).2])/\Below w.heap.size w w':=by
 by_cases a:p.kind=2
 ·have b:Dm v p=Fg v p:=if_pos a;rw[b];exact KJ v p h w ip ok a
 ·have b:Dm v p=if eR v p=0 then(EY v p,0)else(⟨#[]⟩,eR v p):=ae a;rw[b];exact KL v p h w ip ok a
end
end Go.Proofs.YtooikoiladioeaaGreatDoor
